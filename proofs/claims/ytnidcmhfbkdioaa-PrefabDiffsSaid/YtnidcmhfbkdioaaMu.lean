/-
  The contract of tourmake.World. Conditions: a list of numbers that can be read.
-/
import Derived.Test.YtnidcmhfbkdioaaMt
import Derived.Test.YtnidcmhfbkdioaaMl
import Derived.Test.YtnidcmhfbkdioaaRe
namespace Go.Proofs.Ytnidcmhfbkdioaa
open Go.RowKit
set_option maxRecDepth 100000

/-- The frame of a world that is made. -/
structure WI (r ho base : Nat) (wr : World) (kA : Option Addr) (kn kc : Nat) (ks : List Kd) (GA : Option Addr) (n gc : Nat) (G : List Int) (IA : Option Addr) (q ic : Nat) (its : List It) : Prop where
  bR : Bk wr r 52 #[.slice none 0 0, .slice none 0 0, .slice none 0 0]
  bo : Bk wr ho 52 #[.slice kA kn kc, .slice GA n gc, .slice IA q ic]
  ks : KsY wr 0 kA kn kc ks
  gown : wr.ownsRow base 3 1 (.slice GA n gc) n (G.map (Value.int .i64))
  iown : wr.ownsRow base 147 3 (.slice IA q ic) q (itCs its)
  len : q = its.length
  iok : ∀ it ∈ its, ItY wr 0 it
  nob : ∀ it ∈ its, NoB (Value.slice GA n gc).ownBlock it.cms
  hro : r < ho
section
variable {r ho base : Nat} {wr w' : World} {kA : Option Addr} {kn kc : Nat} {ks : List Kd} {GA : Option Addr} {n gc : Nat} {G : List Int} {IA : Option Addr} {q ic : Nat} {its : List It}
theorem WI.kx {B : Nat} {F : List TypeId} (H : WI r ho base wr kA kn kc ks GA n gc G IA q ic its) (hq : Kx B F wr w') (h52 : (52 : TypeId) ∉ F) (h63 : (63 : TypeId) ∉ F) (h66 : (66 : TypeId) ∉ F) (h3 : (3 : TypeId) ∉ F) (h147 : (147 : TypeId) ∉ F) (h166 : (166 : TypeId) ∉ F) : WI r ho base w' kA kn kc ks GA n gc G IA q ic its :=
  ⟨hq.bk H.bR h52, hq.bk H.bo h52, H.ks.keep (hq.mono (Nat.zero_le _) (fun _ h => h)) h66 h63, hq.own H.gown h3, hq.own H.iown h147, H.len, fun it hit => (H.iok it hit).keep (hq.mono (Nat.zero_le _) (fun _ h => h)) h3 h166, H.nob, H.hro⟩
theorem WI.item (H : WI r ho base wr kA kn kc ks GA n gc G IA q ic its) {w8 : World} {g8 c8 : Nat} {it : It} {o : Obj} (hi : ItY wr 0 it) (hno : NoB (Value.slice GA n gc).ownBlock it.cms)
    (hown8 : w8.ownsRow base 147 3 (.slice (some ⟨g8, 0, none⟩) (q + 1) c8) (q + 1) (itCs its ++ [.int .i64 it.e, .int .i64 it.g, .slice it.A it.n it.c])) (hg8 : (wr.alloc o).grownBy w8 (Value.slice IA q ic).ownBlock) :
    WI r ho base (w8.setCell ⟨ho, 2, none⟩ (.slice (some ⟨g8, 0, none⟩) (q + 1) c8)) kA kn kc ks GA n gc G (some ⟨g8, 0, none⟩) (q + 1) c8 (its ++ [it]) ∧ Kx 0 [147, 52] wr (w8.setCell ⟨ho, 2, none⟩ (.slice (some ⟨g8, 0, none⟩) (q + 1) c8)) := by
  have hq7 : Kx 0 [147] wr w8 := ((Kx.refl (B := 0)).alloc _).grown (H.iown.alloc _) hg8 (Nat.zero_le _) (by simp)
  have bo := hq7.bk H.bo (by decide)
  have hset : Kx 0 [52] w8 (w8.setCell ⟨ho, 2, none⟩ (.slice (some ⟨g8, 0, none⟩) (q + 1) c8)) := Kx.set Kx.refl bo (Nat.zero_le _) (by simp) 2 _
  have hh := H.hro
  refine ⟨⟨(hq7.bk H.bR (by decide)).far (p := ⟨ho, 2, none⟩) (by show r ≠ ho; omega) _, by simpa using bo.set_ 2 (.slice (some ⟨g8, 0, none⟩) (q + 1) c8),
    (H.ks.keep hq7 (by decide) (by decide)).keep hset (by decide) (by decide), hset.own (hq7.own H.gown (by decide)) (by decide), ?_, by simp [H.len], fun x hx => ?_, fun x hx => ?_, H.hro⟩, (hq7.mono (Nat.le_refl _) (by simp)).trans (hset.mono (Nat.le_refl _) (by simp))⟩
  · rw [itCs_snoc]; exact hset.own hown8 (by decide)
  · rcases List.mem_append.1 hx with hx | hx
    · exact ((H.iok x hx).keep hq7 (by decide) (by decide)).keep hset (by decide) (by decide)
    · rw [show x = it by simpa using hx]; exact (hi.keep hq7 (by decide) (by decide)).keep hset (by decide) (by decide)
  · rcases List.mem_append.1 hx with hx | hx
    · exact H.nob x hx
    · rw [show x = it by simpa using hx]; exact hno
theorem WI.gen (H : WI r ho base wr kA kn kc ks GA n gc G IA q ic its) {w9 : World} {g9 c9 : Nat} {gg : Int} {o : Obj}
    (hown9 : w9.ownsRow base 3 1 (.slice (some ⟨g9, 0, none⟩) (n + 1) c9) (n + 1) (G.map (Value.int .i64) ++ [.int .i64 gg])) (hg9 : (wr.alloc o).grownBy w9 (Value.slice GA n gc).ownBlock) (hat : (Value.slice GA n gc).ownBlock = some g9 ∨ g9 = (wr.alloc o).heap.size) :
    WI r ho base (w9.setCell ⟨ho, 1, none⟩ (.slice (some ⟨g9, 0, none⟩) (n + 1) c9)) kA kn kc ks (some ⟨g9, 0, none⟩) (n + 1) c9 (G ++ [gg]) IA q ic its ∧ Kx 0 [3, 52] wr (w9.setCell ⟨ho, 1, none⟩ (.slice (some ⟨g9, 0, none⟩) (n + 1) c9)) := by
  have hal : Kx 0 [3] wr (wr.alloc o) := (Kx.refl (B := 0)).alloc _
  have hq7 : Kx 0 [3] wr w9 := hal.grown (H.gown.alloc _) hg9 (Nat.zero_le _) (by simp)
  have bo := hq7.bk H.bo (by decide)
  have hset : Kx 0 [52] w9 (w9.setCell ⟨ho, 1, none⟩ (.slice (some ⟨g9, 0, none⟩) (n + 1) c9)) := Kx.set Kx.refl bo (Nat.zero_le _) (by simp) 1 _
  have hh := H.hro
  have hal0 : Kx 0 [] wr (wr.alloc o) := (Kx.refl (B := 0)).alloc _
  refine ⟨⟨(hq7.bk H.bR (by decide)).far (p := ⟨ho, 1, none⟩) (by show r ≠ ho; omega) _, by simpa using bo.set_ 1 (.slice (some ⟨g9, 0, none⟩) (n + 1) c9),
    (H.ks.keep hq7 (by decide) (by decide)).keep hset (by decide) (by decide), ?_, hset.own (hq7.own H.iown (by decide)) (by decide), H.len, fun x hx => ?_, fun x hx => ?_, H.hro⟩, (hq7.mono (Nat.le_refl _) (by simp)).trans (hset.mono (Nat.le_refl _) (by simp))⟩
  · rw [List.map_append]; exact hset.own hown9 (by decide)
  · exact (((H.iok x hx).keep hal0 (by simp) (by simp)).grown3 (H.gown.alloc _) hg9 (Nat.zero_le _) (H.nob x hx)).keep hset (by decide) (by decide)
  · refine NoB.grown ((H.iok x hx).keep hal0 (by simp) (by simp)) (H.nob x hx) ?_
    rcases hat with h1 | h1
    · exact .inl h1.symm
    · exact .inr (by rw [h1]; rfl)
end
theorem KsI.ksY {w wr : World} {B : Nat} {KA : Option Addr} {k kc : Nat} {ks : List Kd} (h : KsI w wr KA k kc ks) : KsY wr B KA k kc ks := by
  have hc := own_cap2 h.own
  exact ⟨.of_own h.own, h.len.symm, hc.1, hc.2, fun x hx => ⟨.of_tr (h.ok x hx).tr, (h.ok x hx).len, (h.ok x hx).cap, (h.ok x hx).cap2⟩⟩

set_option maxHeartbeats 4000000 in
theorem world2_any (A : Option Addr) (n c B : Nat) (zs : List Int) (w : World) (hr : Rd w B 1 A n (zs.map (Value.int .i64))) (hn : n = zs.length) (hnc : n ≤ c) (hc : c ≤ 9223372036854775807) (hz : ∀ z ∈ zs, (Lit.int .i64 z).wf = true) (hB : B ≤ w.heap.size) :
    Calls Try.prog 29 #[.slice A n c] w fun e w' => ∃ y : Wd, e = .returned y.v ∧ Hid ((WdY w' 0 y ∧ VW holdK y.p ∧ checkF y.p.ks = 0 ∧ y.p.gens.length ≤ 11) ∧ y.p.ks.length ≤ 4 ∧ ∀ k ∈ y.p.ks, k.2.length ≤ 3) ∧ Below w.heap.size w w' := by
  obtain ⟨W0, hW0⟩ : ∃ W0, W0 = (w.alloc (.cells #[.slice none 0 0, .slice none 0 0, .slice none 0 0] 52)).alloc (.cells #[.slice A n c] 189) := ⟨_, rfl⟩
  have hb0 : Below w.heap.size w W0 := by rw [hW0]; exact Below.al (Below.al (Below.refl _ _) _) _
  have hbR : Bk W0 w.heap.size 52 #[.slice none 0 0, .slice none 0 0, .slice none 0 0] := by rw [hW0]; exact (Bk.new _ _ _).alloc _
  have hst : StrSt W0 B (w.heap.size + 1) := ⟨A, n, c, zs, by rw [hW0]; exact Bk.two _ _ _ _, hn, hnc, hc, hr.below (hb0.mono hB), hz⟩
  obtain ⟨s, hs⟩ : ∃ s, s = w.heap.size + 1 := ⟨_, rfl⟩
  rw [← hs] at hst
  have hBs : B ≤ s := by omega
  have hsz0 : W0.heap.size = s + 1 := by rw [hW0, hs]; simp
  have HKD := Lib.hid (kinds_any s B W0 hst hBs)
  have HNX := Lib.hid next_any
  have HB0 := Lib.hid hb0
  have HBR := Lib.hid hbR
  have HS := Lib.hid hs
  clear hr hn hnc hc hz hb0 hbR hst
  go_enter Try.func29, Try.ntmps29
  go_wp2_with fail
  rw [← hW0, ← hs]
  clear hW0 hs
  (with_reducible refine HKD.out.mono ?_)
  rintro e w1 ⟨kA, kc, ks, rfl, hki, hgk, hk1, hk4, hst1, hq1⟩
  have HK1 : Hid (KsY w1 0 kA ks.length kc ks) := Lib.hid hki.ksY
  have HGK := Lib.hid hgk
  have HS1 := Lib.hid hst1
  have HQ1 := Lib.hid hq1
  have hW01 : W0.heap.size ≤ w1.heap.size := hq1.size
  obtain ⟨kn, hkn⟩ : ∃ kn, kn = ks.length := ⟨_, rfl⟩
  rw [← hkn] at HK1 hk1 hk4 ⊢
  have HKN := Lib.hid hkn
  clear hki hgk hst1 hq1 hkn HKD
  obtain ⟨w2, hw2⟩ : ∃ w2, w2 = w1.alloc (.cells #[.slice kA kn kc, .slice none 0 0, .slice none 0 0] 52) := ⟨_, rfl⟩
  have hb2 : Below w1.heap.size w1 w2 := by rw [hw2]; exact (Below.refl _ _).alloc (Nat.le_refl _) _
  have HS2 : Hid (StrSt w2 B s) := Lib.hid (HS1.out.below hb2 (HS1.out.lo hBs))
  have HBO2 : Hid (Bk w2 w1.heap.size 52 #[.slice kA kn kc, .slice none 0 0, .slice none 0 0]) := Lib.hid (by rw [hw2]; exact Bk.new _ _ _)
  have HQ2 : Hid (Fq [s] W0 w2) := Lib.hid (HQ1.out.trans (Fq.of_below hb2) (SubF.refl _ _))
  have HK2 : Hid (KsY w2 0 kA kn kc ks) := Lib.hid (HK1.out.keep (F := []) (Kx.of_below (B := 0) hb2) (by simp) (by simp))
  clear hb2 HS1 HQ1 HK1
  go_wp2_with fail
  rw [← hw2]
  clear hw2
  (with_reducible refine (HNX.out s B 12 _ HS2.out hBs (by omega) (by omega)).mono ?_)
  rintro e w3 ⟨v, rfl, hv0, hv1, hst3, hg3⟩
  obtain ⟨N, rfl⟩ : ∃ N : Nat, v = N := ⟨v.toNat, by omega⟩
  have hrs : w.heap.size < s := by have := HS.out; omega
  have hsW : s < W0.heap.size := by omega
  have hso : s < w1.heap.size := by omega
  have HQ3 : Hid (Fq [s] W0 w3) := Lib.hid (HQ2.out.grown hg3 fun g hg => .inl (by injection hg with hg; simp [hg]))
  have hk23 : Kx 0 [189] w2 w3 := Kx.fq (B' := 0) (Fq.refl.grown hg3 fun g hg => .inl (by injection hg with hg; simp [hg])) HS2.out (Nat.zero_le _)
  have hbRw2 : Bk w2 w.heap.size 52 #[.slice none 0 0, .slice none 0 0, .slice none 0 0] := (HQ2.out.low _ HBR.out.lt (by simp; omega)).trans HBR.out
  have HI3 : Hid (WI w.heap.size w1.heap.size W0.heap.size w3 kA kn kc ks none 0 0 [] none 0 0 []) := Lib.hid ⟨hk23.bk hbRw2 (by decide), hk23.bk HBO2.out (by decide), HK2.out.keep hk23 (by decide) (by decide), World.ownsRow_nil _ _ _ _, World.ownsRow_nil _ _ _ _, rfl, (fun x hx => by cases hx), (fun x hx => by cases hx), by omega⟩
  have HS3 := Lib.hid hst3
  have hN12 : N < 12 := by omega
  clear hst3 hg3 hk23 hbRw2 HS2 HBO2 HQ2 HK2 hv0 hv1
  go_wp2_with fail
  go_loopw [14] (fun iv wr => ∃ (i q gc ic : Nat) (GA IA : Option Addr) (G : List Int) (its : List It), i ≤ N ∧ q ≤ i ∧ iv = .int .i64 i ∧ Hid (WI w.heap.size w1.heap.size W0.heap.size wr kA kn kc ks GA i gc G IA q ic its ∧ WwI holdK (ks.map Kd.p) i G (its.map It.p)) ∧ Hid (StrSt wr B s) ∧ Hid (Fq [s] W0 wr)) (fun iv _ => N - (intOf iv).toNat)
  case atStart => exact ⟨0, 0, 0, 0, none, none, [], [], Nat.zero_le _, Nat.le_refl _, rfl, Lib.hid ⟨HI3.out, WwI.zero⟩, HS3, HQ3⟩
  case round =>
    clear HI3 HS3 HQ3
    obtain ⟨i, q, gc, ic, GA, IA, G, its, hi, hqi, rfl, HI, HSt, HQ⟩ := hrel
    by_cases hlt : i < N
    · have hiz : (i : Int) < N := by omega
      have s1 : wr.drew.cell? ⟨w1.heap.size, 1, none⟩ = some (.slice GA i gc) := HI.out.1.bo.cell 1
      obtain ⟨i3, hi3, hz30, hz31, hz32⟩ := info_parts T.info3
      go_wp2_with fail
      refine wp_region_E (S := fun wx => wx.cell? ⟨w1.heap.size, 1, none⟩ = some (.slice GA i gc)) (last := 7) (by kernel_rfl) ?_
      refine wpAnyE_val (i := 0) (v := .pointer (some ⟨w1.heap.size, 1, none⟩)) (d := some 17) rfl rfl (by kernel_rfl) (by kernel_rfl) (by kernel_rfl) (by kernel_rfl) (fun _ _ _ h => h) (Or.inl ⟨by rfl, fun w _ => by go_simp⟩) s1 ?_
      (try simp only [Act.put, List.setIfInBounds_toArray, List.set_cons_zero, List.set_cons_succ])
      refine wpAnyE_val (i := 1) (v := .slice GA i gc) (d := some 18) rfl rfl (by kernel_rfl) (by kernel_rfl) (by kernel_rfl) (by kernel_rfl) (fun _ _ _ h => h) (Or.inl ⟨by rfl, fun w hS => by go_simp⟩) s1 ?_
      (try simp only [Act.put, List.setIfInBounds_toArray, List.set_cons_zero, List.set_cons_succ])
      refine wpAnyE_val (i := 2) (v := .pointer (some ⟨s, 0, none⟩)) (d := some 19) rfl rfl (by kernel_rfl) (by kernel_rfl) (by kernel_rfl) (by kernel_rfl) (fun _ _ _ h => h) (Or.inl ⟨by rfl, fun w _ => by go_simp⟩) s1 ?_
      (try simp only [Act.put, List.setIfInBounds_toArray, List.set_cons_zero, List.set_cons_succ])
      have hws : W0.heap.size ≤ wr.heap.size := HQ.out.size
      have hsd : StrSt wr.drew B s := HSt.out.below (Below.refl _ _).drew (HSt.out.lo hBs)
      refine wpAnyE_one (i := 3) rfl (by kernel_rfl) rfl ?_
      go_simp
      (with_reducible refine (HNX.out s B 3 _ hsd hBs (by omega) (by omega)).mono ?_)
      rintro e w4 ⟨v, rfl, hv0, hv1, hst4, hg4⟩
      have hk4 : Kx 0 [189] wr w4 := Kx.fq (B' := 0) ((Fq.refl (w := wr)).drew.grown hg4 fun g hg => .inl (by injection hg with hg; simp [hg])) HSt.out (Nat.zero_le _)
      have HI4 := Lib.hid (HI.out.1.kx hk4 (by decide) (by decide) (by decide) (by decide) (by decide) (by decide))
      have HQ4 : Hid (Fq [s] W0 w4) := Lib.hid (HQ.out.drew.grown hg4 fun g hg => .inl (by injection hg with hg; simp [hg]))
      have HS4 := Lib.hid hst4
      have s4 : w4.cell? ⟨w1.heap.size, 1, none⟩ = some (.slice GA i gc) := HI4.out.bo.cell 1
      have hw4 : W0.heap.size ≤ w4.heap.size := HQ4.out.size
      clear hk4 hst4 hg4 hsd
      refine ⟨s4, ?_⟩
      (try simp only [Act.put, List.setIfInBounds_toArray, List.set_cons_zero, List.set_cons_succ])
      refine wpAnyE_one (i := 4) rfl (by kernel_rfl) rfl ?_
      go_simp
      have s5 : (w4.alloc (.cells #[.int .i64 v] 3)).cell? ⟨w1.heap.size, 1, none⟩ = some (.slice GA i gc) := (HI4.out.bo.alloc _).cell 1
      refine ⟨s5, ?_⟩
      (try simp only [Act.put, List.setIfInBounds_toArray, List.set_cons_zero, List.set_cons_succ])
      refine wpAnyE_if (i := 5) rfl (by kernel_rfl) rfl ?_
      refine step_append_one rfl (.tmp 18) (.tmp 21) 30 rfl W0.heap.size 3 i3 (.int .i64 0) 1 8 Try.underlying30 hi3 hz30 hz31 hz32 rfl (by decide) (.slice GA i gc) i (G.map (Value.int .i64)) rfl (HI4.out.gown.alloc _) w4.heap.size 1 3 #[.int .i64 v] rfl (Bk.new w4 _ _) rfl ?c1 (i + 1) rfl ?c2 ?c3 ?c4 ?_
      case c1 => simp [Value.oneCell']
      case c2 => unfold maxLen; omega
      case c3 => omega
      case c4 => (simp; omega)
      intro g9 c9 w9 hown9 hg9 hat9
      have hbo9 : Bk w9 w1.heap.size 52 #[.slice kA kn kc, .slice GA i gc, .slice IA q ic] := (HI4.out.bo.alloc _).grown hg9 (fun e => own_ne HI4.out.gown HI4.out.bo (by decide) e.symm)
      have s9 : w9.cell? ⟨w1.heap.size, 1, none⟩ = some (.slice GA i gc) := hbo9.cell 1
      have f9 := hbo9.frozen 1
      refine ⟨fun _ => s9, ?_⟩
      (try simp only [Act.put, List.setIfInBounds_toArray])
      refine wpAnyE_val (i := 6) (v := .pointer (some ⟨w1.heap.size, 1, none⟩)) (d := some 23) rfl rfl (by kernel_rfl) (by kernel_rfl) (by kernel_rfl) (by kernel_rfl) (fun _ _ _ h => h) (Or.inl ⟨by rfl, fun w _ => by go_simp⟩) s9 ?_
      (try simp only [Act.put])
      refine wpAnyE_one (i := 7) rfl (by kernel_rfl) rfl ?_
      go_simp
      refine wpAnyE_done (by kernel_rfl) ?_ _
      have hWG := HI4.out.gen hown9 hg9 (by rcases hat9 with h | h; exact .inl h; exact .inr h)
      obtain ⟨w5, hw5⟩ : ∃ w5, w5 = w9.setCell ⟨w1.heap.size, 1, none⟩ (.slice (some ⟨g9, 0, none⟩) (i + 1) c9) := ⟨_, rfl⟩
      have hB0 : B ≤ W0.heap.size := by omega
      have hB1 : B ≤ w1.heap.size := by omega
      have hkB : Kx B [3, 52] w4 w5 := by rw [hw5]; exact (((Kx.refl (B := B)).alloc _).grown (HI4.out.gown.alloc _) hg9 hB0 (by simp)).set hbo9 hB1 (by simp) 1 _
      have HS5 : Hid (StrSt w5 B s) := Lib.hid (HS4.out.kx hkB (Nat.le_refl _) (HS4.out.lo hBs) (by decide))
      have HQ5 : Hid (Fq [s] W0 w5) := Lib.hid (by rw [hw5]; exact ((HQ4.out.alloc _).grown hg9 (fun g hg => .inr (HI4.out.gown.lt g hg).1)).set (.inr (by omega)) 1 _)
      rw [← hw5] at hWG ⊢
      have HI5 := Lib.hid hWG.1
      have HW5 : Hid (WwI holdK (ks.map Kd.p) (i + 1) (G ++ [v]) (its.map It.p)) := Lib.hid (HI.out.2.gen hv0 (by omega))
      have HWO := Lib.hid HI.out.2
      clear hWG hkB hown9 hg9 hat9 hbo9 s9 f9 s4 s5 s1 hw5 HI4 HS4 HQ4 HI HSt HQ
      go_wp2_with fail
      (with_reducible refine (HNX.out s B 4 _ HS5.out hBs (by omega) (by omega)).mono ?_)
      rintro e w6 ⟨u, rfl, hu0, hu1, hst6, hg6⟩
      have hk6 : Kx 0 [189] w5 w6 := Kx.fq (B' := 0) ((Fq.refl (w := w5)).grown hg6 fun g hg => .inl (by injection hg with hg; simp [hg])) HS5.out (Nat.zero_le _)
      have HI6 := Lib.hid (HI5.out.kx hk6 (by decide) (by decide) (by decide) (by decide) (by decide) (by decide))
      have HQ6 : Hid (Fq [s] W0 w6) := Lib.hid (HQ5.out.grown hg6 fun g hg => .inl (by injection hg with hg; simp [hg]))
      have HS6 := Lib.hid hst6
      clear hk6 hst6 hg6 HI5 HQ5 HS5
      by_cases hu3 : u = 3
      · have t3 : (u == 3) = true := by simp [hu3]
        clear hu3
        go_wp2_with fail
        go_roundw
        case rel => first | exact ⟨i + 1, q, c9, ic, some ⟨g9, 0, none⟩, IA, G ++ [v], its, by omega, by omega, by go_num, Lib.hid ⟨HI6.out, HW5.out⟩, HS6, HQ6⟩ | ((repeat apply Exists.intro); (refine And.intro ?_ ?_); rotate_left; (focus (repeat' first | exact rfl | apply And.intro)); exact ⟨i + 1, q, c9, ic, some ⟨g9, 0, none⟩, IA, G ++ [v], its, by omega, by omega, by go_num, Lib.hid ⟨HI6.out, HW5.out⟩, HS6, HQ6⟩)
        case measure => simp [intOf]; omega
      · have t3 : (u == 3) = false := by simp [hu3]
        have e2 : w6.cell? ⟨w1.heap.size, 2, none⟩ = some (.slice IA q ic) := HI6.out.bo.cell 2
        clear hu3
        by_cases hq8 : q = 8
        · have t8 : ((q : Int) == 8) = true := by simp [hq8]
          have hq8z : (q : Int) = 8 := by omega
          clear hq8
          go_wp2_with fail
          go_roundw
          case rel => first | exact ⟨i + 1, q, c9, ic, some ⟨g9, 0, none⟩, IA, G ++ [v], its, by omega, by omega, by go_num, Lib.hid ⟨HI6.out, HW5.out⟩, HS6, HQ6⟩ | ((repeat apply Exists.intro); (refine And.intro ?_ ?_); rotate_left; (focus (repeat' first | exact rfl | apply And.intro)); exact ⟨i + 1, q, c9, ic, some ⟨g9, 0, none⟩, IA, G ++ [v], its, by omega, by omega, by go_num, Lib.hid ⟨HI6.out, HW5.out⟩, HS6, HQ6⟩)
          case measure => simp [intOf]; omega
        · have t8 : ((q : Int) == 8) = false := by simp; omega
          have e0 : w6.cell? ⟨w1.heap.size, 0, none⟩ = some (.slice kA kn kc) := HI6.out.bo.cell 0
          have e1 : w6.cell? ⟨w1.heap.size, 1, none⟩ = some (.slice (some ⟨g9, 0, none⟩) (i + 1) c9) := HI6.out.bo.cell 1
          have hgi : w6.cell? ⟨g9, i, none⟩ = some (.int .i64 v) := by
            obtain ⟨b, o, hA, _, hcell⟩ := (Rd.of_own HI6.out.gown).at1 (k := i) (by omega) (u := .int .i64 v) (by
              rw [List.map_append, List.getElem?_append_right (by rw [List.length_map, HWO.out.len]; omega), List.length_map, HWO.out.len]; simp)
            injection hA with hA
            injection hA with h1 h2
            subst h1; subst h2
            rw [Nat.zero_add] at hcell
            exact hcell
          have hg9 := (HI6.out.gown.lt g9 rfl)
          have hg9s : g9 ≠ s := by omega
          have s1 : w6.drew.cell? ⟨w1.heap.size, 0, none⟩ = some (.slice kA kn kc) ∧ w6.drew.cell? ⟨w1.heap.size, 1, none⟩ = some (.slice (some ⟨g9, 0, none⟩) (i + 1) c9) ∧ w6.drew.cell? ⟨w1.heap.size, 2, none⟩ = some (.slice IA q ic) ∧ w6.drew.cell? ⟨g9, i, none⟩ = some (.int .i64 v) := ⟨e0, e1, e2, hgi⟩
          obtain ⟨iI, hiI, hzI0, hzI1, hzI2⟩ := info_parts T.infoIt
          have hone : ∀ k ∈ ks, oneF k.nm k.fds = 0 := fun k hk => by
            obtain ⟨j, hj⟩ := List.mem_iff_getElem?.1 hk
            exact HGK.out.one (i := j) (k := k.p) (by rw [List.getElem?_map, hj]; rfl)
          have HMK := Lib.hid (mkcomps_any s B kA kn kc ks w6.drew (HS6.out.below (Below.refl _ _).drew (HS6.out.lo hBs)) hBs ((HI6.out.ks.more (Nat.zero_le _)).keep (F := []) ((Kx.refl (B := B)).drew) (by simp) (by simp)) hone (by omega))
          have hi1z : (i : Int) < (i : Int) + 1 := by omega
          have hi0z : (0 : Int) ≤ i := by omega
          clear hone
          go_wp2_with fail
          refine wp_region_E (S := fun wx => wx.cell? ⟨w1.heap.size, 0, none⟩ = some (.slice kA kn kc) ∧ wx.cell? ⟨w1.heap.size, 1, none⟩ = some (.slice (some ⟨g9, 0, none⟩) (i + 1) c9) ∧ wx.cell? ⟨w1.heap.size, 2, none⟩ = some (.slice IA q ic) ∧ wx.cell? ⟨g9, i, none⟩ = some (.int .i64 v)) (last := 17) (by kernel_rfl) ?_
          refine wpAnyE_val (i := 0) (v := .pointer (some ⟨w1.heap.size, 2, none⟩)) (d := some 33) rfl rfl (by kernel_rfl) (by kernel_rfl) (by kernel_rfl) (by kernel_rfl) (fun _ _ _ h => h) (Or.inl ⟨by rfl, fun w _ => by go_simp⟩) s1 ?_
          (try simp only [Act.put, List.setIfInBounds_toArray, List.set_cons_zero, List.set_cons_succ])
          refine wpAnyE_val (i := 1) (v := .slice IA q ic) (d := some 34) rfl rfl (by kernel_rfl) (by kernel_rfl) (by kernel_rfl) (by kernel_rfl) (fun _ _ _ h => h) (Or.inl ⟨by rfl, fun w hS => by (obtain ⟨h0, h1, h2, h3⟩ := hS; go_simp)⟩) s1 ?_
          (try simp only [Act.put, List.setIfInBounds_toArray, List.set_cons_zero, List.set_cons_succ])
          refine wpAnyE_val (i := 2) (v := .int .i64 (i : Int)) (d := some 35) rfl rfl (by kernel_rfl) (by kernel_rfl) (by kernel_rfl) (by kernel_rfl) (fun _ _ _ h => h) (Or.inl ⟨by rfl, fun w _ => by go_simp⟩) s1 ?_
          (try simp only [Act.put, List.setIfInBounds_toArray, List.set_cons_zero, List.set_cons_succ])
          refine wpAnyE_val (i := 3) (v := .pointer (some ⟨w1.heap.size, 1, none⟩)) (d := some 36) rfl rfl (by kernel_rfl) (by kernel_rfl) (by kernel_rfl) (by kernel_rfl) (fun _ _ _ h => h) (Or.inl ⟨by rfl, fun w _ => by go_simp⟩) s1 ?_
          (try simp only [Act.put, List.setIfInBounds_toArray, List.set_cons_zero, List.set_cons_succ])
          refine wpAnyE_val (i := 4) (v := .slice (some ⟨g9, 0, none⟩) (i + 1) c9) (d := some 37) rfl rfl (by kernel_rfl) (by kernel_rfl) (by kernel_rfl) (by kernel_rfl) (fun _ _ _ h => h) (Or.inl ⟨by rfl, fun w hS => by (obtain ⟨h0, h1, h2, h3⟩ := hS; go_simp)⟩) s1 ?_
          (try simp only [Act.put, List.setIfInBounds_toArray, List.set_cons_zero, List.set_cons_succ])
          refine wpAnyE_val (i := 5) (v := .int .i64 (i : Int)) (d := some 38) rfl rfl (by kernel_rfl) (by kernel_rfl) (by kernel_rfl) (by kernel_rfl) (fun _ _ _ h => h) (Or.inl ⟨by rfl, fun w _ => by go_simp⟩) s1 ?_
          (try simp only [Act.put, List.setIfInBounds_toArray, List.set_cons_zero, List.set_cons_succ])
          refine wpAnyE_val (i := 6) (v := .pointer (some ⟨g9, i, none⟩)) (d := some 39) rfl rfl (by kernel_rfl) (by kernel_rfl) (by kernel_rfl) (by kernel_rfl) (fun _ _ _ h => h) (Or.inl ⟨by rfl, fun w _ => by go_simp⟩) s1 ?_
          (try simp only [Act.put, List.setIfInBounds_toArray, List.set_cons_zero, List.set_cons_succ])
          refine wpAnyE_val (i := 7) (v := .int .i64 v) (d := some 40) rfl rfl (by kernel_rfl) (by kernel_rfl) (by kernel_rfl) (by kernel_rfl) (fun _ _ _ h => h) (Or.inl ⟨by rfl, fun w hS => by (obtain ⟨h0, h1, h2, h3⟩ := hS; go_simp)⟩) s1 ?_
          (try simp only [Act.put, List.setIfInBounds_toArray, List.set_cons_zero, List.set_cons_succ])
          refine wpAnyE_val (i := 8) (v := .agg #[.int .i64 (i : Int), .int .i64 v]) (d := some 41) rfl rfl (by kernel_rfl) (by kernel_rfl) (by kernel_rfl) (by kernel_rfl) (fun _ _ _ h => h) (Or.inl ⟨by rfl, fun w _ => by go_simp⟩) s1 ?_
          (try simp only [Act.put, List.setIfInBounds_toArray, List.set_cons_zero, List.set_cons_succ])
          refine wpAnyE_val (i := 9) (v := .pointer (some ⟨w1.heap.size, 0, none⟩)) (d := some 42) rfl rfl (by kernel_rfl) (by kernel_rfl) (by kernel_rfl) (by kernel_rfl) (fun _ _ _ h => h) (Or.inl ⟨by rfl, fun w _ => by go_simp⟩) s1 ?_
          (try simp only [Act.put, List.setIfInBounds_toArray, List.set_cons_zero, List.set_cons_succ])
          refine wpAnyE_val (i := 10) (v := .slice kA kn kc) (d := some 43) rfl rfl (by kernel_rfl) (by kernel_rfl) (by kernel_rfl) (by kernel_rfl) (fun _ _ _ h => h) (Or.inl ⟨by rfl, fun w hS => by (obtain ⟨h0, h1, h2, h3⟩ := hS; go_simp)⟩) s1 ?_
          (try simp only [Act.put, List.setIfInBounds_toArray, List.set_cons_zero, List.set_cons_succ])
          refine wpAnyE_val (i := 11) (v := .pointer (some ⟨s, 0, none⟩)) (d := some 44) rfl rfl (by kernel_rfl) (by kernel_rfl) (by kernel_rfl) (by kernel_rfl) (fun _ _ _ h => h) (Or.inl ⟨by rfl, fun w _ => by go_simp⟩) s1 ?_
          (try simp only [Act.put, List.setIfInBounds_toArray, List.set_cons_zero, List.set_cons_succ])
          refine wpAnyE_one (i := 12) rfl (by kernel_rfl) rfl ?_
          go_simp
          (with_reducible refine HMK.out.mono ?_)
          rintro e w7 ⟨CA, cc, l, rfl, hcs7, hst7, hq7⟩
          have hk7 : Kx 0 [189] w6 w7 := ((Kx.refl (B := 0)).drew).trans (Kx.fq (B' := 0) hq7 (HS6.out.below (Below.refl _ _).drew (HS6.out.lo hBs)) (Nat.zero_le _))
          have HI7 := Lib.hid (HI6.out.kx hk7 (by decide) (by decide) (by decide) (by decide) (by decide) (by decide))
          have HQ7 : Hid (Fq [s] W0 w7) := Lib.hid (HQ6.out.drew.trans hq7 (SubF.refl _ _))
          have HS7 := Lib.hid hst7
          have HIT7 : Hid (ItY w7 0 (⟨i, v, CA, l.length, cc, l⟩ : It)) := Lib.hid ⟨hcs7.out.1, wf_i64 (by show _ ≤ ((i : Nat) : Int); omega) (by show ((i : Nat) : Int) ≤ _; omega), wf_i64 (by show _ ≤ v; omega) (by show v ≤ _; omega)⟩
          have HNO : Hid (NoB (Value.slice (some ⟨g9, 0, none⟩) (i + 1) c9).ownBlock l) := Lib.hid (NoB.of_fr hcs7.out.2.2 (fun b hb => by
            have e : g9 = b := by simpa [Value.ownBlock] using hb
            subst e
            exact ⟨Nat.zero_le _, hg9.2⟩))
          have HVC := Lib.hid hcs7.out.2.1
          have hgi7 : w7.cell? ⟨g9, i, none⟩ = some (.int .i64 v) := (World.cell?_of_block (w := w6) (a := ⟨g9, i, none⟩) (hq7.low g9 hg9.2 (by simp; exact hg9s))).trans hgi
          have s7 : w7.cell? ⟨w1.heap.size, 0, none⟩ = some (.slice kA kn kc) ∧ w7.cell? ⟨w1.heap.size, 1, none⟩ = some (.slice (some ⟨g9, 0, none⟩) (i + 1) c9) ∧ w7.cell? ⟨w1.heap.size, 2, none⟩ = some (.slice IA q ic) ∧ w7.cell? ⟨g9, i, none⟩ = some (.int .i64 v) := ⟨HI7.out.bo.cell 0, HI7.out.bo.cell 1, HI7.out.bo.cell 2, hgi7⟩
          have hw7 : W0.heap.size ≤ w7.heap.size := HQ7.out.size
          have hg97 : g9 < w7.heap.size := (HI7.out.gown.lt g9 rfl).2
          clear hk7 hcs7 hst7 hq7 hgi7 HMK
          refine ⟨s7, ?_⟩
          (try simp only [Act.put, List.setIfInBounds_toArray, List.set_cons_zero, List.set_cons_succ])
          refine wpAnyE_val (i := 13) (v := .agg #[.int .i64 (i : Int), .int .i64 v, .slice CA l.length cc]) (d := some 46) rfl rfl (by kernel_rfl) (by kernel_rfl) (by kernel_rfl) (by kernel_rfl) (fun _ _ _ h => h) (Or.inl ⟨by rfl, fun w _ => by go_simp⟩) s7 ?_
          (try simp only [Act.put, List.setIfInBounds_toArray, List.set_cons_zero, List.set_cons_succ])
          refine wpAnyE_one (i := 14) rfl (by kernel_rfl) rfl ?_
          go_simp
          have hgi8 : (w7.alloc (.cells #[.int .i64 (i : Int), .int .i64 v, .slice CA l.length cc] 147)).cell? ⟨g9, i, none⟩ = some (.int .i64 v) := (((Below.refl w7.heap.size w7).alloc (Nat.le_refl _) _).cell (p := ⟨g9, i, none⟩) hg97).trans s7.2.2.2
          have s8 : (w7.alloc (.cells #[.int .i64 (i : Int), .int .i64 v, .slice CA l.length cc] 147)).cell? ⟨w1.heap.size, 0, none⟩ = some (.slice kA kn kc) ∧ (w7.alloc (.cells #[.int .i64 (i : Int), .int .i64 v, .slice CA l.length cc] 147)).cell? ⟨w1.heap.size, 1, none⟩ = some (.slice (some ⟨g9, 0, none⟩) (i + 1) c9) ∧ (w7.alloc (.cells #[.int .i64 (i : Int), .int .i64 v, .slice CA l.length cc] 147)).cell? ⟨w1.heap.size, 2, none⟩ = some (.slice IA q ic) ∧ (w7.alloc (.cells #[.int .i64 (i : Int), .int .i64 v, .slice CA l.length cc] 147)).cell? ⟨g9, i, none⟩ = some (.int .i64 v) := ⟨(HI7.out.bo.alloc _).cell 0, (HI7.out.bo.alloc _).cell 1, (HI7.out.bo.alloc _).cell 2, hgi8⟩
          refine And.intro (by first | exact s8 | exact ⟨s8.1, s8.2.1, s8.2.2.1⟩) ?_
          (try simp only [Act.put, List.setIfInBounds_toArray, List.set_cons_zero, List.set_cons_succ])
          refine wpAnyE_if (i := 15) rfl (by kernel_rfl) rfl ?_
          refine step_append_one rfl (.tmp 34) (.tmp 47) 50 rfl W0.heap.size 147 iI (.agg #[.int .i64 0, .int .i64 0, .slice none 0 0]) 3 40 Try.underlying50 hiI hzI0 hzI1 hzI2 rfl (by decide) (.slice IA q ic) q (itCs its) rfl (HI7.out.iown.alloc _) w7.heap.size 1 147 #[.int .i64 (i : Int), .int .i64 v, .slice CA l.length cc] rfl (Bk.new w7 _ _) rfl ?c1 (q + 1) rfl ?c2 ?c3 ?c4 ?_
          case c1 => simp [Value.oneCell']
          case c2 => unfold maxLen; omega
          case c3 => omega
          case c4 => (simp; omega)
          intro gA cA wA hownA hgA hatA
          have hboA : Bk wA w1.heap.size 52 #[.slice kA kn kc, .slice (some ⟨g9, 0, none⟩) (i + 1) c9, .slice IA q ic] := (HI7.out.bo.alloc _).grown hgA (fun e => own_ne HI7.out.iown HI7.out.bo (by decide) e.symm)
          have hgiA : wA.cell? ⟨g9, i, none⟩ = some (.int .i64 v) := by
            obtain ⟨cs, hcs⟩ := own_ty HI7.out.gown (g := g9) rfl
            have h1 := (hcs.alloc (.cells #[.int .i64 (i : Int), .int .i64 v, .slice CA l.length cc] 147)).grown hgA (fun e => own_ne HI7.out.iown hcs (by decide) e.symm)
            exact (h1.cell i).trans ((hcs.cell i).symm.trans s7.2.2.2)
          have sA : wA.cell? ⟨w1.heap.size, 0, none⟩ = some (.slice kA kn kc) ∧ wA.cell? ⟨w1.heap.size, 1, none⟩ = some (.slice (some ⟨g9, 0, none⟩) (i + 1) c9) ∧ wA.cell? ⟨w1.heap.size, 2, none⟩ = some (.slice IA q ic) ∧ wA.cell? ⟨g9, i, none⟩ = some (.int .i64 v) := ⟨hboA.cell 0, hboA.cell 1, hboA.cell 2, hgiA⟩
          have fA := hboA.frozen 2
          have cA2 : wA.cell? ⟨w1.heap.size, 2, none⟩ = some (.slice IA q ic) := hboA.cell 2
          refine ⟨fun _ => sA, ?_⟩
          (try simp only [Act.put, List.setIfInBounds_toArray])
          refine wpAnyE_val (i := 16) (v := .pointer (some ⟨w1.heap.size, 2, none⟩)) (d := some 49) rfl rfl (by kernel_rfl) (by kernel_rfl) (by kernel_rfl) (by kernel_rfl) (fun _ _ _ h => h) (Or.inl ⟨by rfl, fun w _ => by go_simp⟩) sA ?_
          (try simp only [Act.put])
          refine wpAnyE_one (i := 17) rfl (by kernel_rfl) rfl ?_
          go_simp
          refine wpAnyE_done (by kernel_rfl) ?_ _
          have hWI := HI7.out.item HIT7.out HNO.out hownA hgA
          have hB0' : B ≤ W0.heap.size := by omega
          have hkB : Kx B [147, 52] w7 (wA.setCell ⟨w1.heap.size, 2, none⟩ (.slice (some ⟨gA, 0, none⟩) (q + 1) cA)) := (((Kx.refl (B := B)).alloc _).grown (HI7.out.iown.alloc _) hgA hB0' (by simp)).set hboA (by omega) (by simp) 2 _
          have HSN : Hid (StrSt (wA.setCell ⟨w1.heap.size, 2, none⟩ (.slice (some ⟨gA, 0, none⟩) (q + 1) cA)) B s) := Lib.hid (HS7.out.kx hkB (Nat.le_refl _) (HS7.out.lo hBs) (by decide))
          have HQN : Hid (Fq [s] W0 (wA.setCell ⟨w1.heap.size, 2, none⟩ (.slice (some ⟨gA, 0, none⟩) (q + 1) cA))) := Lib.hid (((HQ7.out.alloc _).grown hgA (fun g hg => .inr (HI7.out.iown.lt g hg).1)).set (.inr (by omega)) 2 _)
          have HIN : Hid (WI w.heap.size w1.heap.size W0.heap.size (wA.setCell ⟨w1.heap.size, 2, none⟩ (.slice (some ⟨gA, 0, none⟩) (q + 1) cA)) kA kn kc ks (some ⟨g9, 0, none⟩) (i + 1) c9 (G ++ [v]) (some ⟨gA, 0, none⟩) (q + 1) cA (its ++ [(⟨i, v, CA, l.length, cc, l⟩ : It)]) ∧ WwI holdK (ks.map Kd.p) (i + 1) (G ++ [v]) ((its ++ [(⟨i, v, CA, l.length, cc, l⟩ : It)]).map It.p)) := Lib.hid ⟨hWI.1, by rw [List.map_append]; exact HWO.out.item hv0 (by omega) HVC.out⟩
          clear hWI hkB hownA hgA hatA hboA hgiA sA fA cA2 s8 hgi8 s7 s1 e0 e1 e2 hgi
          go_wp2_with fail
          go_roundw
          case rel => first | exact ⟨i + 1, q + 1, c9, cA, some ⟨g9, 0, none⟩, some ⟨gA, 0, none⟩, G ++ [v], its ++ [(⟨i, v, CA, l.length, cc, l⟩ : It)], by omega, by omega, by go_num, HIN, HSN, HQN⟩ | ((repeat apply Exists.intro); (refine And.intro ?_ ?_); rotate_left; (focus (repeat' first | exact rfl | apply And.intro)); exact ⟨i + 1, q + 1, c9, cA, some ⟨g9, 0, none⟩, some ⟨gA, 0, none⟩, G ++ [v], its ++ [(⟨i, v, CA, l.length, cc, l⟩ : It)], by omega, by omega, by go_num, HIN, HSN, HQN⟩)
          case measure => simp [intOf]; omega
    · obtain rfl : N = i := by omega
      have b0 : wr.cell? ⟨w1.heap.size, 0, none⟩ = some (.slice kA kn kc) := HI.out.1.bo.cell 0
      have b1 : wr.cell? ⟨w1.heap.size, 1, none⟩ = some (.slice GA N gc) := HI.out.1.bo.cell 1
      have b2 : wr.cell? ⟨w1.heap.size, 2, none⟩ = some (.slice IA q ic) := HI.out.1.bo.cell 2
      have n0 : wr.cell? ⟨w.heap.size, 0, none⟩ = some (.slice none 0 0) := HI.out.1.bR.cell 0
      have n1 : wr.cell? ⟨w.heap.size, 1, none⟩ = some (.slice none 0 0) := HI.out.1.bR.cell 1
      have n2 : wr.cell? ⟨w.heap.size, 2, none⟩ = some (.slice none 0 0) := HI.out.1.bR.cell 2
      have m0 := HI.out.1.bR.frozen 0
      have m1 := HI.out.1.bR.frozen 1
      have m2 := HI.out.1.bR.frozen 2
      go_wp2_with fail
      (try simp only [Exit.inBlock, Exit.then])
      have hkx := Kx.set3 (B := 0) (F := [52]) Kx.refl HI.out.1.bR (Nat.zero_le _) (by simp) 0 1 2 (.slice kA kn kc) (.slice GA N gc) (.slice IA q ic)
      have hvw := HI.out.2.done (by omega)
      have hgw : ∀ g ∈ G, (Lit.int .i64 g).wf = true := fun g hg => by have := HI.out.2.gens g hg; exact wf_i64 (by omega) (by omega)
      have hbel : Below w.heap.size w wr := HB0.out.trans (HQ.out.below (fun k hk => by rw [show k = s by simpa using hk]; omega) HB0.out.size)
      refine bodyPost_ret (v := .agg #[.slice kA kn kc, .slice GA N gc, .slice IA q ic]) ?_ rfl ⟨⟨kA, kn, kc, ks, GA, N, gc, G, IA, q, ic, its⟩, rfl, Lib.hid ⟨⟨⟨HI.out.1.ks.keep hkx (by decide) (by decide), (GsY.own HI.out.1.gown hgw).keep hkx (by decide), (IsY.of_own HI.out.1.iown HI.out.1.len HI.out.1.iok).keep hkx (by decide) (by decide) (by decide)⟩, hvw, HGK.out.check (by rw [List.length_map, ← HKN.out]; exact hk4), by show G.length ≤ 11; rw [HI.out.2.len]; omega⟩, by show (ks.map Kd.p).length ≤ 4; rw [List.length_map, ← HKN.out]; exact hk4, fun k hk => by obtain ⟨i, hi, rfl⟩ := List.getElem_of_mem hk; exact (HGK.out.g i _ (List.getElem?_eq_getElem hi)).2.2.1⟩, ?_⟩
      · rw [results_c1 rfl]
        go_simp
      · exact ((hbel.setCell (p := ⟨w.heap.size, 0, none⟩) (Nat.le_refl _) _).setCell (p := ⟨w.heap.size, 1, none⟩) (Nat.le_refl _) _).setCell (p := ⟨w.heap.size, 2, none⟩) (Nat.le_refl _) _
theorem world_any (A : Option Addr) (n c B : Nat) (zs : List Int) (w : World) (hr : Rd w B 1 A n (zs.map (Value.int .i64))) (hn : n = zs.length) (hnc : n ≤ c) (hc : c ≤ 9223372036854775807) (hz : ∀ z ∈ zs, (Lit.int .i64 z).wf = true) (hB : B ≤ w.heap.size) :
    Calls Try.prog 29 #[.slice A n c] w fun e w' => ∃ y : Wd, e = .returned y.v ∧ Hid (WdY w' 0 y ∧ VW holdK y.p ∧ checkF y.p.ks = 0 ∧ y.p.gens.length ≤ 11) ∧ Below w.heap.size w w' :=
  (world2_any A n c B zs w hr hn hnc hc hz hB).mono fun _ _ ⟨y, h1, h2, h3⟩ => ⟨y, h1, Lib.hid h2.out.1, h3⟩
end Go.Proofs.Ytnidcmhfbkdioaa
