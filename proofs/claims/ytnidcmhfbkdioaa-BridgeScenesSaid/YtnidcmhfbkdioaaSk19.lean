/-
  Lemmas for the walk, merged (Cn Wg Mc). No condition but those in each statement.
-/
import Derived.StillTailTactics
import Derived.Test.YtnidcmhfbkdioaaSk18
import Derived.Test.YtnidcmhfbkdioaaSk14
import Derived.Test.YtnidcmhfbkdioaaSk4
import Derived.Test.YtnidcmhfbkdioaaSk13
namespace Go.Proofs.Ytnidcmhfbkdioaa
/-! ### Cn -/
open Go.RowKit
set_option maxRecDepth 100000
theorem kindsN_fd (n : Nat) (hn : n < 8) : ∀ k ∈ kindsN n, 1 ≤ k.2.length := by
  rcases (by omega : n = 0 ∨ n = 1 ∨ n = 2 ∨ n = 3 ∨ n = 4 ∨ n = 5 ∨ n = 6 ∨ n = 7) with rfl | rfl | rfl | rfl | rfl | rfl | rfl | rfl <;> decide +kernel
/-- What is kept while a game is made: the stream, what came before, the game's block. -/
structure GaI (w w0 : World) (B s hr hg : Nat) (kA : Option Addr) (kn kc : Nat) (ks : List Kd) (cs : Array Value) : Prop where
  st : StrSt w B s
  fq : Fq [s] w0 w
  br : Bk w hr 110 #[.slice none 0 0, .slice none 0 0, .slice none 0 0, .int .i64 0, .int .i64 0, .int .i64 0, .int .i64 0, .int .i64 0, .int .i64 0]
  bg : Bk w hg 110 cs
  ks : KsY w 0 kA kn kc ks
theorem GaI.next {w w' w0 : World} {B s hr hg kn kc : Nat} {kA : Option Addr} {ks : List Kd} {cs : Array Value} (h : GaI w w0 B s hr hg kA kn kc ks cs) (hst : StrSt w' B s) (hq : Fq [s] w w') : GaI w' w0 B s hr hg kA kn kc ks cs := by
  have hk := Kx.fq (B' := 0) hq h.st (Nat.zero_le _)
  exact ⟨hst, h.fq.trans hq (SubF.refl _ _), hk.bk h.br (by decide), hk.bk h.bg (by decide), h.ks.keep hk (by decide) (by decide)⟩
theorem GaI.nx {w w' w0 : World} {B s hr hg kn kc : Nat} {kA : Option Addr} {ks : List Kd} {cs : Array Value} (h : GaI w w0 B s hr hg kA kn kc ks cs) (hst : StrSt w' B s) (hg6 : w.grownBy w' (some s)) : GaI w' w0 B s hr hg kA kn kc ks cs :=
  h.next hst (Fq.refl.grown hg6 fun g hg => .inl (by injection hg with hg; simp [hg]))
theorem GaI.set_ {w w0 : World} {B s hr hg kn kc : Nat} {kA : Option Addr} {ks : List Kd} {cs : Array Value} (h : GaI w w0 B s hr hg kA kn kc ks cs) (hB : B ≤ s) (hBg : B ≤ hg) (hrg : hr < hg) (hw : w0.heap.size ≤ hg) (i : Nat) (v : Value) : GaI (w.setCell ⟨hg, i, none⟩ v) w0 B s hr hg kA kn kc ks (cs.setIfInBounds i v) := by
  have hk : Kx B [110] w (w.setCell ⟨hg, i, none⟩ v) := Kx.refl.set h.bg hBg (by simp) i v
  have hk0 := hk.mono (Nat.zero_le _) (fun _ h => h)
  exact ⟨h.st.kx hk (Nat.le_refl _) (h.st.lo hB) (by decide), h.fq.set (.inr hw) i v, h.br.far (p := ⟨hg, i, none⟩) (by show hr ≠ hg; omega) v, h.bg.set_ i v, h.ks.keep hk0 (by decide) (by decide)⟩
set_option maxHeartbeats 16000000 in
theorem game_any (A : Option Addr) (n c B : Nat) (zs : List Int) (w : World) (hr_ : Rd w B 1 A n (zs.map (Value.int .i64))) (hn : n = zs.length) (hnc : n ≤ c) (hc : c ≤ 9223372036854775807) (hz : ∀ z ∈ zs, (Lit.int .i64 z).wf = true) (hB : B ≤ w.heap.size) :
    Calls Try.prog 55 #[.slice A n c] w fun e w' => ∃ (kA sA pA : Option Addr) (kn kc sn sc pn pc nk : Nat) (ks : List Kd) (pl seed gy stp fuel : Int), e = .returned (.agg #[.slice kA kn kc, .slice sA sn sc, .slice pA pn pc, .int .i64 pl, .int .i64 seed, .int .i64 0, .int .i64 gy, .int .i64 stp, .int .i64 fuel]) ∧
      Hid (KsY w' 0 kA kn kc ks ∧ ks.map Kd.p = kindsN nk ∧ nk < 8 ∧ 1 ≤ pl ∧ pl ≤ 3 ∧ 0 ≤ seed ∧ seed < 1000 ∧ -655360 ≤ gy ∧ gy ≤ 0 ∧ 1 ≤ stp ∧ stp ≤ 65536 ∧ 0 ≤ fuel ∧ fuel < 60) ∧ Below w.heap.size w w' := by
  obtain ⟨w0, hw0⟩ : ∃ z, z = (w.alloc (.cells #[.slice none 0 0, .slice none 0 0, .slice none 0 0, .int .i64 0, .int .i64 0, .int .i64 0, .int .i64 0, .int .i64 0, .int .i64 0] 110)).alloc (.cells #[.slice A n c] 189) := ⟨_, rfl⟩
  have HB0 : Hid (Below w.heap.size w w0) := Lib.hid (by rw [hw0]; exact Below.al (Below.al (Below.refl _ _) _) _)
  have HR0 : Hid (Bk w0 w.heap.size 110 #[.slice none 0 0, .slice none 0 0, .slice none 0 0, .int .i64 0, .int .i64 0, .int .i64 0, .int .i64 0, .int .i64 0, .int .i64 0]) := Lib.hid (by rw [hw0]; exact (Bk.new _ _ _).alloc _)
  have HST : Hid (StrSt w0 B (w.heap.size + 1)) := Lib.hid ⟨A, n, c, zs, by rw [hw0]; exact Bk.two _ _ _ _, hn, hnc, hc, hr_.below (HB0.out.mono hB), hz⟩
  obtain ⟨s, hs⟩ : ∃ z, z = w.heap.size + 1 := ⟨_, rfl⟩
  obtain ⟨hr, hhr⟩ : ∃ z, z = w.heap.size := ⟨_, rfl⟩
  have hsz0 : w0.heap.size = s + 1 := by rw [hw0, hs]; simp
  rw [← hs] at HST
  rw [← hhr] at HR0
  have HNX := Lib.hid next_any
  have hBs : B ≤ s := by omega
  have hrs : hr < s := by omega
  have hBw : B ≤ w0.heap.size := by omega
  have HWR : Hid (w.heap.size ≤ hr) := Lib.hid (by omega)
  have HW0 := Lib.hid hw0
  have HEQ := Lib.hid (And.intro hs hhr)
  clear hr_ hn hnc hc hz hw0 hs hhr
  go_enter Try.func55, Try.ntmps55
  go_upto_region 2 with fail
  rw [← HW0.out, ← HEQ.out.1, ← HEQ.out.2]
  clear HW0
  go_wp2_with fail
  (with_reducible refine (HNX.out s B 8 _ HST.out hBs (by omega) (by omega)).mono ?_)
  rintro e w1 ⟨nk, rfl, hk0, hk1, hst1, hg1⟩
  obtain ⟨nk, rfl⟩ : ∃ M : Nat, nk = M := ⟨nk.toNat, by omega⟩
  have hnk : nk < 8 := by omega
  have HS1 := Lib.hid hst1
  have HQ1 : Hid (Fq [s] w0 w1) := Lib.hid (Fq.refl.grown hg1 fun g hg => .inl (by injection hg with hg; simp [hg]))
  clear hst1 hg1 hk0 hk1
  go_wp2_with fail
  (with_reducible refine (kindsN_any nk hnk w1).mono ?_)
  rintro e w2 ⟨kA, kn, kc, ks, rfl, hks2, hksN, hb2⟩
  have HKN := Lib.hid hksN
  have HKL : Hid (1 ≤ kn ∧ kn ≤ 16) := Lib.hid (by
    have h := kindsN_len nk hnk
    rw [← hksN, List.length_map, ← hks2.len] at h
    omega)
  have HK2 := Lib.hid hks2
  have HQ2 : Hid (Fq [s] w0 w2) := Lib.hid (HQ1.out.trans (Fq.of_below hb2) (SubF.refl _ _))
  have HS2 : Hid (StrSt w2 B s) := Lib.hid (HS1.out.below hb2 (HS1.out.lo hBs))
  clear hks2 hksN hb2 HS1 HQ1
  go_wp2_with fail
  (with_reducible refine (HNX.out s B 3 _ HS2.out hBs (by omega) (by omega)).mono ?_)
  rintro e w3 ⟨p0, rfl, hp0, hp1, hst3, hg3⟩
  have HS3 := Lib.hid hst3
  have HQ3 : Hid (Fq [s] w2 w3) := Lib.hid (Fq.refl.grown hg3 fun g hg => .inl (by injection hg with hg; simp [hg]))
  clear hst3 hg3
  have hpw : IntKind.i64.wrap (1 + p0) = 1 + p0 := wrap_small2 (by omega) (by omega)
  go_wp2_with fail
  (with_reducible refine (HNX.out s B 1000 _ HS3.out hBs (by omega) (by omega)).mono ?_)
  rintro e w4 ⟨seed, rfl, hs0, hs1, hst4, hg4⟩
  have HS4 := Lib.hid hst4
  have HQ4 : Hid (Fq [s] w2 w4) := Lib.hid (HQ3.out.grown hg4 fun g hg => .inl (by injection hg with hg; simp [hg]))
  clear hst4 hg4 HQ3
  go_wp2_with fail
  (with_reducible refine (HNX.out s B 60 _ HS4.out hBs (by omega) (by omega)).mono ?_)
  rintro e w5 ⟨fuel, rfl, hf0, hf1, hst5, hg5⟩
  obtain ⟨pl, hpl⟩ : ∃ z, z = 1 + p0 := ⟨_, rfl⟩
  obtain ⟨w6, hw6⟩ : ∃ z, z = w5.alloc (.cells #[.slice kA kn kc, .slice none 0 0, .slice none 0 0, .int .i64 pl, .int .i64 seed, .int .i64 0, .int .i64 0, .int .i64 0, .int .i64 fuel] 110) := ⟨_, rfl⟩
  obtain ⟨hg, hhg⟩ : ∃ z, z = w5.heap.size := ⟨_, rfl⟩
  have hq5 : Fq [s] w2 w5 := HQ4.out.grown hg5 fun g hg => .inl (by injection hg with hg; simp [hg])
  have hq06 : Fq [s] w0 w6 := by rw [hw6]; exact (HQ2.out.trans hq5 (SubF.refl _ _)).alloc _
  have HI6 : Hid (GaI w6 w0 B s hr hg kA kn kc ks #[.slice kA kn kc, .slice none 0 0, .slice none 0 0, .int .i64 pl, .int .i64 seed, .int .i64 0, .int .i64 0, .int .i64 0, .int .i64 fuel]) := Lib.hid ⟨by rw [hw6]; exact hst5.below ((Below.refl _ _).alloc (Nat.le_refl _) _) (hst5.lo hBs), hq06, (Kx.fq (B' := 0) hq06 HST.out (Nat.zero_le _)).bk HR0.out (by decide), by rw [hw6, hhg]; exact Bk.new _ _ _, by
    have h1 := HK2.out.keep (Kx.fq (B' := 0) hq5 HS2.out (Nat.zero_le _)) (by decide) (by decide)
    rw [hw6]
    exact h1.keep (F := []) ((Kx.refl (B := 0)).alloc _) (by simp) (by simp)⟩
  have HW5 : Hid (w0.heap.size ≤ hg) := Lib.hid (by have h1 := HQ2.out.size; have h2 := hq5.size; omega)
  have hrg : hr < hg := by have := HW5.out; omega
  have hgw := HW5.out
  have hBg : B ≤ hg := by omega
  have HPL : Hid (1 ≤ pl ∧ pl ≤ 3) := Lib.hid (by omega)
  have HSF : Hid (0 ≤ seed ∧ seed < 1000 ∧ 0 ≤ fuel ∧ fuel < 60) := Lib.hid ⟨hs0, hs1, hf0, hf1⟩
  have HW6 := Lib.hid hw6
  have HEG := Lib.hid (And.intro hpl hhg)
  clear hst5 hg5 hq5 hq06 HQ4 HS4 HS3 HS2 HQ2 HK2 hw6 hpl hhg
  go_upto_region 3 with fail
  (try rw [← HEG.out.1])
  rw [← HW6.out, ← HEG.out.2]
  clear HW6 hpw hs0 hs1 hf0 hf1 hp0 hp1 HEG
  have hos : hg ≠ s := by
    obtain ⟨cs, h1⟩ := HI6.out.st.bk
    exact HI6.out.bg.ne_ h1 (by decide)
  obtain ⟨u6, hu6⟩ : ∃ z, z = w6.drew := ⟨_, rfl⟩
  have HJ6 : Hid (GaI u6 w0 B s hr hg kA kn kc ks #[.slice kA kn kc, .slice none 0 0, .slice none 0 0, .int .i64 pl, .int .i64 seed, .int .i64 0, .int .i64 0, .int .i64 0, .int .i64 fuel]) := Lib.hid (by rw [hu6]; exact HI6.out.next (HI6.out.st.below (Below.refl _ _).drew (HI6.out.st.lo hBs)) Fq.refl.drew)
  clear HI6
  refine wp_region_H (S := fun wz => wz.cell? ⟨hg, 0, none⟩ = some (.slice kA kn kc)) (by kernel_rfl) ?_
  rw [← hu6]
  clear hu6
  refine wpAnyH_val (i := 0) (v := .pointer (some ⟨s, 0, none⟩)) (d := some 20) rfl rfl (by kernel_rfl) (by kernel_rfl) (by kernel_rfl) (fun _ _ _ h => h) (Or.inl ⟨by rfl, fun w hS => by (go_simp)⟩) (HJ6.out.bg.cell 0) ?_
  (try simp only [Act.put, List.setIfInBounds_toArray, List.set_cons_zero, List.set_cons_succ])
  refine wpAnyH_val (i := 5) (v := .pointer (some ⟨s, 0, none⟩)) (d := some 25) rfl rfl (by kernel_rfl) (by kernel_rfl) (by kernel_rfl) (fun _ _ _ h => h) (Or.inl ⟨by rfl, fun w hS => by (go_simp)⟩) (HJ6.out.bg.cell 0) ?_
  (try simp only [Act.put, List.setIfInBounds_toArray, List.set_cons_zero, List.set_cons_succ])
  refine wpAnyH_oneW (i := 1) rfl (by kernel_rfl) (by rfl) ?_
  go_simp
  go_at_call 98
  (with_reducible refine (HNX.out s B 11 _ HJ6.out.st hBs (by omega) (by omega)).mono ?_)
  rintro e u7 ⟨ga, rfl, ha0, ha1, hst7, hg7⟩
  have HJ7 : Hid (GaI u7 w0 B s hr hg kA kn kc ks #[.slice kA kn kc, .slice none 0 0, .slice none 0 0, .int .i64 pl, .int .i64 seed, .int .i64 0, .int .i64 0, .int .i64 0, .int .i64 fuel]) := Lib.hid (HJ6.out.nx hst7 hg7)
  clear hst7 hg7 HJ6
  have hwa : IntKind.i64.wrap (-ga) = -ga := wrap_small2 (by omega) (by omega)
  have hwb : IntKind.i64.wrap (-ga * 65536) = -ga * 65536 := wrap_small2 (by omega) (by omega)
  refine And.intro (HJ7.out.bg.cell 0) ?_
  (try simp only [Act.put, List.setIfInBounds_toArray, List.set_cons_zero, List.set_cons_succ])
  refine wpAnyH_val (i := 2) (v := .int .i64 (-ga)) (d := some 22) rfl rfl (by kernel_rfl) (by kernel_rfl) (by kernel_rfl) (fun _ _ _ h => h) (Or.inl ⟨by rfl, fun w hS => by (go_simp)⟩) (HJ7.out.bg.cell 0) ?_
  (try simp only [Act.put, List.setIfInBounds_toArray, List.set_cons_zero, List.set_cons_succ])
  refine wpAnyH_val (i := 3) (v := .int .i64 (-ga * 65536)) (d := some 23) rfl rfl (by kernel_rfl) (by kernel_rfl) (by kernel_rfl) (fun _ _ _ h => h) (Or.inl ⟨by rfl, fun w hS => by (go_simp)⟩) (HJ7.out.bg.cell 0) ?_
  (try simp only [Act.put, List.setIfInBounds_toArray, List.set_cons_zero, List.set_cons_succ])
  refine wpAnyH_val (i := 4) (v := .agg #[.int .i64 0, .int .i64 (-ga * 65536)]) (d := some 24) rfl rfl (by kernel_rfl) (by kernel_rfl) (by kernel_rfl) (fun _ _ _ h => h) (Or.inl ⟨by rfl, fun w hS => by (go_simp)⟩) (HJ7.out.bg.cell 0) ?_
  (try simp only [Act.put, List.setIfInBounds_toArray, List.set_cons_zero, List.set_cons_succ])
  refine wpAnyH_val (i := 9) (v := .pointer (some ⟨hg, 5, none⟩)) (d := some 29) rfl rfl (by kernel_rfl) (by kernel_rfl) (by kernel_rfl) (fun _ _ _ h => h) (Or.inl ⟨by rfl, fun w hS => by (go_simp)⟩) (HJ7.out.bg.cell 0) ?_
  (try simp only [Act.put, List.setIfInBounds_toArray, List.set_cons_zero, List.set_cons_succ])
  refine wpAnyH_oneW (i := 6) rfl (by kernel_rfl) (by rfl) ?_
  go_simp
  go_at_call 98
  (with_reducible refine (HNX.out s B 40 _ HJ7.out.st hBs (by omega) (by omega)).mono ?_)
  rintro e u8 ⟨gb, rfl, hb0, hb1, hst8, hg8⟩
  have HJ8 : Hid (GaI u8 w0 B s hr hg kA kn kc ks #[.slice kA kn kc, .slice none 0 0, .slice none 0 0, .int .i64 pl, .int .i64 seed, .int .i64 0, .int .i64 0, .int .i64 0, .int .i64 fuel]) := Lib.hid (HJ7.out.nx hst8 hg8)
  clear hst8 hg8 HJ7
  have hwc : IntKind.i64.wrap (20 + gb) = 20 + gb := wrap_small2 (by omega) (by omega)
  have hnz : ¬ (20 + gb = 0) := by omega
  obtain ⟨stp, hstp⟩ : ∃ z, z = Int.tdiv 65536 (20 + gb) := ⟨_, rfl⟩
  have hstp1 : 1 ≤ stp ∧ stp ≤ 65536 := by
    rw [hstp, Int.tdiv_eq_ediv_of_nonneg (by omega)]
    constructor
    · exact (Int.le_ediv_iff_mul_le (by omega)).2 (by omega)
    · exact Int.ediv_le_self _ (by omega)
  have hwd : IntKind.i64.wrap (Int.tdiv 65536 (20 + gb)) = stp := by rw [← hstp]; exact wrap_small2 (by omega) (by omega)
  have HSTP := Lib.hid hstp1
  clear hstp hstp1
  refine And.intro (HJ8.out.bg.cell 0) ?_
  (try simp only [Act.put, List.setIfInBounds_toArray, List.set_cons_zero, List.set_cons_succ])
  refine wpAnyH_val (i := 7) (v := .int .i64 (20 + gb)) (d := some 27) rfl rfl (by kernel_rfl) (by kernel_rfl) (by kernel_rfl) (fun _ _ _ h => h) (Or.inl ⟨by rfl, fun w hS => by (go_simp)⟩) (HJ8.out.bg.cell 0) ?_
  (try simp only [Act.put, List.setIfInBounds_toArray, List.set_cons_zero, List.set_cons_succ])
  refine wpAnyH_val (i := 8) (v := .int .i64 stp) (d := some 28) rfl rfl (by kernel_rfl) (by kernel_rfl) (by kernel_rfl) (fun _ _ _ h => h) (Or.inl ⟨by rfl, fun w hS => by (go_simp)⟩) (HJ8.out.bg.cell 0) ?_
  (try simp only [Act.put, List.setIfInBounds_toArray, List.set_cons_zero, List.set_cons_succ])
  have x5 : u8.cell? ⟨hg, 5, none⟩ = some (.int .i64 0) := HJ8.out.bg.cell 5
  have x6 : u8.cell? ⟨hg, 6, none⟩ = some (.int .i64 0) := HJ8.out.bg.cell 6
  have f5 := HJ8.out.bg.frozen 5
  have f6 := HJ8.out.bg.frozen 6
  refine wpAnyH_oneW (i := 10) rfl (by kernel_rfl) (by rfl) ?_
  go_simp
  refine And.intro (HJ8.out.bg.cell 0) ?_
  (try simp only [Act.put, List.setIfInBounds_toArray, List.set_cons_zero, List.set_cons_succ])
  obtain ⟨gy, hgy⟩ : ∃ z, z = -ga * 65536 := ⟨_, rfl⟩
  rw [← hgy]
  have HGY : Hid (-655360 ≤ gy ∧ gy ≤ 0) := Lib.hid (by omega)
  obtain ⟨u9, hu9⟩ : ∃ z, z = (u8.setCell ⟨hg, 5, none⟩ (.int .i64 0)).setCell ⟨hg, 6, none⟩ (.int .i64 gy) := ⟨_, rfl⟩
  have HJ9 : Hid (GaI u9 w0 B s hr hg kA kn kc ks #[.slice kA kn kc, .slice none 0 0, .slice none 0 0, .int .i64 pl, .int .i64 seed, .int .i64 0, .int .i64 gy, .int .i64 0, .int .i64 fuel]) := Lib.hid (by
    rw [hu9]
    have h := (HJ8.out.set_ hBs hBg hrg hgw 5 (.int .i64 0)).set_ hBs hBg hrg hgw 6 (.int .i64 gy)
    simpa using h)
  rw [← hu9]
  clear hu9 hgy HJ8 x5 x6 f5 f6 hwa hwb ha0 ha1
  refine wpAnyH_val (i := 11) (v := .pointer (some ⟨hg, 7, none⟩)) (d := some 30) rfl rfl (by kernel_rfl) (by kernel_rfl) (by kernel_rfl) (fun _ _ _ h => h) (Or.inl ⟨by rfl, fun w hS => by (go_simp)⟩) (HJ9.out.bg.cell 0) ?_
  (try simp only [Act.put, List.setIfInBounds_toArray, List.set_cons_zero, List.set_cons_succ])
  have x7 : u9.cell? ⟨hg, 7, none⟩ = some (.int .i64 0) := HJ9.out.bg.cell 7
  have f7 := HJ9.out.bg.frozen 7
  refine wpAnyH_oneW (i := 12) rfl (by kernel_rfl) (by rfl) ?_
  go_simp
  refine And.intro (HJ9.out.bg.cell 0) ?_
  (try simp only [Act.put, List.setIfInBounds_toArray, List.set_cons_zero, List.set_cons_succ])
  refine wpAnyH_done (by kernel_rfl) ?_ _
  obtain ⟨uA, huA⟩ : ∃ z, z = u9.setCell ⟨hg, 7, none⟩ (.int .i64 stp) := ⟨_, rfl⟩
  have HJA : Hid (GaI uA w0 B s hr hg kA kn kc ks #[.slice kA kn kc, .slice none 0 0, .slice none 0 0, .int .i64 pl, .int .i64 seed, .int .i64 0, .int .i64 gy, .int .i64 stp, .int .i64 fuel]) := Lib.hid (by
    rw [huA]
    have h := HJ9.out.set_ hBs hBg hrg hgw 7 (.int .i64 stp)
    simpa using h)
  rw [← huA]
  clear huA HJ9 x7 f7 hwc hnz hwd hb0 hb1
  go_wp2_with fail
  (with_reducible refine (scripts_any uA).mono ?_)
  rintro e uB ⟨gs, ls, rfl, hls, hbs, hgs, hbB⟩
  have HJB : Hid (GaI uB w0 B s hr hg kA kn kc ks #[.slice kA kn kc, .slice none 0 0, .slice none 0 0, .int .i64 pl, .int .i64 seed, .int .i64 0, .int .i64 gy, .int .i64 stp, .int .i64 fuel]) := Lib.hid (HJA.out.next (HJA.out.st.below hbB (HJA.out.st.lo hBs)) (Fq.of_below hbB))
  have HBS : Hid (Bk uB gs 9 (ls.map Value.string).toArray ∧ ls.length = 4) := Lib.hid ⟨hbs, hls⟩
  clear hls hbs hgs hbB HJA
  go_wp2_with fail
  (with_reducible refine (HNX.out s B 4 _ HJB.out.st hBs (by omega) (by omega)).mono ?_)
  rintro e uC ⟨N, rfl, hN0, hN1, hstC, hgC⟩
  obtain ⟨N, rfl⟩ : ∃ M : Nat, N = M := ⟨N.toNat, by omega⟩
  have HJC : Hid (GaI uC w0 B s hr hg kA kn kc ks #[.slice kA kn kc, .slice none 0 0, .slice none 0 0, .int .i64 pl, .int .i64 seed, .int .i64 0, .int .i64 gy, .int .i64 stp, .int .i64 fuel]) := Lib.hid (HJB.out.nx hstC hgC)
  have hgsn : gs ≠ s := by
    obtain ⟨cs, h1⟩ := HJB.out.st.bk
    exact HBS.out.1.ne_ h1 (by decide)
  have HBC : Hid (Bk uC gs 9 (ls.map Value.string).toArray ∧ ls.length = 4) := Lib.hid ⟨HBS.out.1.grown hgC (fun e => by injection e with e; omega), HBS.out.2⟩
  have hN4 : N < 4 := by omega
  have hgsC : gs < uC.heap.size := HBC.out.1.lt
  have HUC : Hid (w0.heap.size ≤ uC.heap.size) := Lib.hid HJC.out.fq.size
  clear hstC hgC HJB HBS hN0 hN1
  go_wp2_with fail
  go_loopw [34] (fun jv wx => ∃ (i pc : Nat) (pA : Option Addr) (ps : List Value), i ≤ N ∧ jv = .int .i64 i ∧ Hid (GaI wx w0 B s hr hg kA kn kc ks #[.slice kA kn kc, .slice none 0 0, .slice pA i pc, .int .i64 pl, .int .i64 seed, .int .i64 0, .int .i64 gy, .int .i64 stp, .int .i64 fuel]) ∧ Hid (wx.ownsRow uC.heap.size 9 1 (.slice pA i pc) i ps) ∧ Hid (Bk wx gs 9 (ls.map Value.string).toArray ∧ uC.heap.size ≤ wx.heap.size)) (fun jv _ => N - (intOf jv).toNat)
  case atStart => exact ⟨0, 0, none, [], Nat.zero_le _, rfl, HJC, Lib.hid (World.ownsRow_nil _ _ _ _), Lib.hid ⟨HBC.out.1, Nat.le_refl _⟩⟩
  case round =>
    obtain ⟨i, pc, pA, ps, hi, rfl, HJ, HO, HBG⟩ := hrel
    by_cases hlt : i < N
    · have hiz : (i : Int) < N := by omega
      obtain ⟨i9, hi9, hz90, hz91, hz92⟩ := info_parts T.info9
      go_upto_region 7 with fail
      obtain ⟨v0, hv0⟩ : ∃ z, z = wr.drew := ⟨_, rfl⟩
      have HJ0 : Hid (GaI v0 w0 B s hr hg kA kn kc ks #[.slice kA kn kc, .slice none 0 0, .slice pA i pc, .int .i64 pl, .int .i64 seed, .int .i64 0, .int .i64 gy, .int .i64 stp, .int .i64 fuel]) := Lib.hid (by rw [hv0]; exact HJ.out.next (HJ.out.st.below (Below.refl _ _).drew (HJ.out.st.lo hBs)) Fq.refl.drew)
      have HO0 : Hid (v0.ownsRow uC.heap.size 9 1 (.slice pA i pc) i ps) := Lib.hid (by rw [hv0]; exact (Kx.refl (B := 0) (F := [])).drew.own HO.out (by simp))
      have HG0 : Hid (Bk v0 gs 9 (ls.map Value.string).toArray) := Lib.hid (by rw [hv0]; exact HBG.out.1.drew)
      have HV0 : Hid (uC.heap.size ≤ v0.heap.size) := Lib.hid (by rw [hv0]; exact HBG.out.2)
      clear HJ HO HBG
      refine wp_region_noPanic ?_
      refine wp_region_L (late := [12]) (S := fun wz => wz.cell? ⟨hg, 2, none⟩ = some (.slice pA i pc)) (by kernel_rfl) ?_
      rw [← hv0]
      clear hv0
      refine wpAnyL_val (i := 0) (v := .pointer (some ⟨hg, 2, none⟩)) (d := some 36) rfl rfl (by kernel_rfl) (by kernel_rfl) (by kernel_rfl) (by kernel_rfl) (fun _ _ _ h => h) (Or.inl ⟨by rfl, fun w hS => by (go_simp)⟩) (HJ0.out.bg.cell 2) ?_
      (try simp only [Act.put, List.setIfInBounds_toArray, List.set_cons_zero, List.set_cons_succ])
      refine wpAnyL_val (i := 1) (v := .slice pA i pc) (d := some 37) rfl rfl (by kernel_rfl) (by kernel_rfl) (by kernel_rfl) (by kernel_rfl) (fun _ _ _ h => h) (Or.inl ⟨by rfl, fun w hS => by (go_simp)⟩) (HJ0.out.bg.cell 2) ?_
      (try simp only [Act.put, List.setIfInBounds_toArray, List.set_cons_zero, List.set_cons_succ])
      refine wpAnyL_val (i := 2) (v := .slice (some ⟨gs, 0, none⟩) 4 4) (d := some 38) rfl rfl (by kernel_rfl) (by kernel_rfl) (by kernel_rfl) (by kernel_rfl) (fun _ _ _ h => h) (Or.inl ⟨by rfl, fun w hS => by (go_simp)⟩) (HJ0.out.bg.cell 2) ?_
      (try simp only [Act.put, List.setIfInBounds_toArray, List.set_cons_zero, List.set_cons_succ])
      refine wpAnyL_val (i := 3) (v := .pointer (some ⟨s, 0, none⟩)) (d := some 39) rfl rfl (by kernel_rfl) (by kernel_rfl) (by kernel_rfl) (by kernel_rfl) (fun _ _ _ h => h) (Or.inl ⟨by rfl, fun w hS => by (go_simp)⟩) (HJ0.out.bg.cell 2) ?_
      (try simp only [Act.put, List.setIfInBounds_toArray, List.set_cons_zero, List.set_cons_succ])
      refine wpAnyL_val (i := 4) (v := .slice (some ⟨gs, 0, none⟩) 4 4) (d := some 40) rfl rfl (by kernel_rfl) (by kernel_rfl) (by kernel_rfl) (by kernel_rfl) (fun _ _ _ h => h) (Or.inl ⟨by rfl, fun w hS => by (go_simp)⟩) (HJ0.out.bg.cell 2) ?_
      (try simp only [Act.put, List.setIfInBounds_toArray, List.set_cons_zero, List.set_cons_succ])
      refine wpAnyL_val (i := 5) (v := .int .i64 4) (d := some 41) rfl rfl (by kernel_rfl) (by kernel_rfl) (by kernel_rfl) (by kernel_rfl) (fun _ _ _ h => h) (Or.inl ⟨by rfl, fun w hS => by (go_simp)⟩) (HJ0.out.bg.cell 2) ?_
      (try simp only [Act.put, List.setIfInBounds_toArray, List.set_cons_zero, List.set_cons_succ])
      refine wpAnyL_one (i := 6) rfl (by kernel_rfl) (by rfl) ?_
      go_simp
      go_at_call 98
      (with_reducible refine (HNX.out s B 4 _ HJ0.out.st hBs (by omega) (by omega)).mono ?_)
      rintro e v1 ⟨q, rfl, hq0, hq1, hst1, hg1⟩
      obtain ⟨q, rfl⟩ : ∃ M : Nat, q = M := ⟨q.toNat, by omega⟩
      have HJ1 : Hid (GaI v1 w0 B s hr hg kA kn kc ks #[.slice kA kn kc, .slice none 0 0, .slice pA i pc, .int .i64 pl, .int .i64 seed, .int .i64 0, .int .i64 gy, .int .i64 stp, .int .i64 fuel]) := Lib.hid (HJ0.out.nx hst1 hg1)
      have HO1 : Hid (v1.ownsRow uC.heap.size 9 1 (.slice pA i pc) i ps) := Lib.hid ((Kx.fq (B' := 0) (Fq.refl.grown hg1 fun g hg => .inl (by injection hg with hg; simp [hg])) HJ0.out.st (Nat.zero_le _)).own HO0.out (by decide))
      have HG1 : Hid (Bk v1 gs 9 (ls.map Value.string).toArray) := Lib.hid (HG0.out.grown hg1 (fun e => by injection e with e; omega))
      have HV1 : Hid (uC.heap.size ≤ v1.heap.size) := Lib.hid (Nat.le_trans HV0.out hg1.size)
      clear hst1 hg1 HJ0 HO0 HG0
      refine And.intro (HJ1.out.bg.cell 2) ?_
      (try simp only [Act.put, List.setIfInBounds_toArray, List.set_cons_zero, List.set_cons_succ])
      obtain ⟨tx, htx⟩ : ∃ tx, ls[q]? = some tx := ⟨_, List.getElem?_eq_getElem (by have := HBC.out.2; omega)⟩
      have hcx : v1.cell? ⟨gs, q, none⟩ = some (.string tx) := (HG1.out.cell q).trans (by simp [htx])
      have hq4 : (q : Int) < 4 := by omega
      have hq00 : (0 : Int) ≤ q := by omega
      refine wpAnyL_one (i := 7) rfl (by kernel_rfl) (by rfl) ?_
      go_simp
      refine And.intro (HJ1.out.bg.cell 2) ?_
      (try simp only [Act.put, List.setIfInBounds_toArray, List.set_cons_zero, List.set_cons_succ])
      refine wpAnyL_one (i := 8) rfl (by kernel_rfl) (by rfl) ?_
      go_simp
      refine And.intro (HJ1.out.bg.cell 2) ?_
      (try simp only [Act.put, List.setIfInBounds_toArray, List.set_cons_zero, List.set_cons_succ])
      refine wpAnyL_one (i := 9) rfl (by kernel_rfl) (by rfl) ?_
      go_simp
      refine And.intro ((HJ1.out.bg.alloc _).cell 2) ?_
      (try simp only [Act.put, List.setIfInBounds_toArray, List.set_cons_zero, List.set_cons_succ])
      refine wpAnyL_one (i := 10) rfl (by kernel_rfl) (by rfl) ?_
      refine wp_append_one (.tmp 37) (.tmp 45) 108 rfl uC.heap.size 9 i9 (.string ByteArray.empty) 1 16 Try.underlying108 hi9 hz90 hz91 hz92 rfl (by decide) (.slice pA i pc) i ps rfl (HO1.out.alloc _) v1.heap.size 1 9 #[.string tx] rfl (Bk.new _ _ _) rfl (by simp [Value.oneCell']) (i + 1) rfl (by unfold maxLen; omega) (by omega) (by have := HV1.out; simp; omega) ?_
      intro g2 c2 v2 hown hgr hat
      have hnog : (Value.slice pA i pc).ownBlock ≠ some gs := fun e => by have := (HO1.out.lt gs e).1; omega
      have HJ2 : Hid (GaI v2 w0 B s hr hg kA kn kc ks #[.slice kA kn kc, .slice none 0 0, .slice pA i pc, .int .i64 pl, .int .i64 seed, .int .i64 0, .int .i64 gy, .int .i64 stp, .int .i64 fuel]) := Lib.hid (by
        have hk : Kx B [9] v1 v2 := ((Kx.refl (B := B)).alloc _).grown (HO1.out.alloc _) hgr (by have := HUC.out; omega) (by simp)
        have hk0 := hk.mono (Nat.zero_le _) (fun _ h => h)
        exact ⟨HJ1.out.st.kx hk (Nat.le_refl _) (HJ1.out.st.lo hBs) (by decide), (HJ1.out.fq.alloc _).grown hgr (fun g hg => .inr (by have h1 := (HO1.out.lt g hg).1; have h2 := HUC.out; omega)), hk0.bk HJ1.out.br (by decide), hk0.bk HJ1.out.bg (by decide), HJ1.out.ks.keep hk0 (by decide) (by decide)⟩)
      have HG2 : Hid (Bk v2 gs 9 (ls.map Value.string).toArray) := Lib.hid ((HG1.out.alloc _).grown hgr (fun e => hnog e.symm))
      have HO2 := Lib.hid hown
      have HV2 : Hid (uC.heap.size ≤ v2.heap.size) := Lib.hid (by have h1 := HV1.out; have h2 := hgr.size; simp at h2; omega)
      clear hown hgr hat HG1 HO1 HJ1 hcx
      refine And.intro (HJ2.out.bg.cell 2) ?_
      (try simp only [Act.put, List.setIfInBounds_toArray])
      refine wpAnyL_val (i := 11) (v := .pointer (some ⟨hg, 2, none⟩)) (d := some 47) rfl rfl (by kernel_rfl) (by kernel_rfl) (by kernel_rfl) (by kernel_rfl) (fun _ _ _ h => h) (Or.inl ⟨by rfl, fun w hS => by (go_simp)⟩) (HJ2.out.bg.cell 2) ?_
      (try simp only [Act.put])
      have x2 : v2.cell? ⟨hg, 2, none⟩ = some (.slice pA i pc) := HJ2.out.bg.cell 2
      have f2 := HJ2.out.bg.frozen 2
      refine wpAnyL_late (i := 12) rfl (by kernel_rfl) (by rfl) (by kernel_rfl) ?_
      go_simp
      (try simp only [Act.put, List.setIfInBounds_toArray, List.set_cons_zero, List.set_cons_succ])
      refine wpAnyL_done (by kernel_rfl) ?_ _
      refine NoPanic.normal ?_
      obtain ⟨v3, hv3⟩ : ∃ z, z = v2.setCell ⟨hg, 2, none⟩ (.slice (some ⟨g2, 0, none⟩) (i + 1) c2) := ⟨_, rfl⟩
      have HJ3 : Hid (GaI v3 w0 B s hr hg kA kn kc ks #[.slice kA kn kc, .slice none 0 0, .slice (some ⟨g2, 0, none⟩) (i + 1) c2, .int .i64 pl, .int .i64 seed, .int .i64 0, .int .i64 gy, .int .i64 stp, .int .i64 fuel]) := Lib.hid (by
        rw [hv3]
        have h := HJ2.out.set_ hBs hBg hrg hgw 2 (.slice (some ⟨g2, 0, none⟩) (i + 1) c2)
        simpa using h)
      have HO3 : Hid (v3.ownsRow uC.heap.size 9 1 (.slice (some ⟨g2, 0, none⟩) (i + 1) c2) (i + 1) (ps ++ [.string tx])) := Lib.hid (by rw [hv3]; exact own_far HO2.out HJ2.out.bg (by decide) 2 _)
      have HG3 : Hid (Bk v3 gs 9 (ls.map Value.string).toArray ∧ uC.heap.size ≤ v3.heap.size) := Lib.hid (by rw [hv3]; exact ⟨HG2.out.far (p := ⟨hg, 2, none⟩) (HG2.out.ne_ HJ2.out.bg (by decide)) _, by simpa [World.setCell] using HV2.out⟩)
      rw [← hv3]
      clear hv3 x2 f2 HJ2 HO2 HG2
      go_wp2_with fail
      go_roundw
      case rel => first | exact ⟨i + 1, c2, some ⟨g2, 0, none⟩, _, by omega, by go_num, HJ3, HO3, HG3⟩ | ((repeat apply Exists.intro); (refine And.intro ?_ ?_); rotate_left; (focus (repeat' first | exact rfl | apply And.intro)); exact ⟨i + 1, c2, some ⟨g2, 0, none⟩, _, by omega, by go_num, HJ3, HO3, HG3⟩)
      case measure => simp [intOf]; omega
    · obtain rfl : N = i := by omega
      go_upto_region 9 with fail
      clear HO HBG HJC
      obtain ⟨LA, ln, lc, zl, hLb, hLn, hLc, hLc2, hLr, hLz⟩ := HJ.out.st
      have HL := Lib.hid (And.intro hLb (And.intro hLn (And.intro hLc (And.intro hLc2 (And.intro hLr hLz)))))
      clear hLb hLn hLc hLc2 hLr hLz
      obtain ⟨v0, hv0⟩ : ∃ z, z = wr.drew := ⟨_, rfl⟩
      have HJ0 : Hid (GaI v0 w0 B s hr hg kA kn kc ks #[.slice kA kn kc, .slice none 0 0, .slice pA N pc, .int .i64 pl, .int .i64 seed, .int .i64 0, .int .i64 gy, .int .i64 stp, .int .i64 fuel]) := Lib.hid (by rw [hv0]; exact HJ.out.next (HJ.out.st.below (Below.refl _ _).drew (HJ.out.st.lo hBs)) Fq.refl.drew)
      have HL0 : Hid (Bk v0 s 189 #[.slice LA ln lc] ∧ Rd v0 B 1 LA ln (zl.map (Value.int .i64))) := Lib.hid (by rw [hv0]; exact ⟨HL.out.1.drew, HL.out.2.2.2.2.1.below (Below.refl _ _).drew⟩)
      clear HJ
      have HON : Hid ((∀ k ∈ ks, oneF k.nm k.fds = 0) ∧ ∀ k ∈ ks, 1 ≤ k.n) := Lib.hid ⟨fun k hk => kindsN_one nk hnk k.p (by rw [← HKN.out]; exact List.mem_map_of_mem hk), fun k hk => by rw [(HJ0.out.ks.ok k hk).len]; exact kindsN_fd nk hnk k.p (by rw [← HKN.out]; exact List.mem_map_of_mem hk)⟩
      refine wp_region_L (late := [8]) (S := fun wz => wz.cell? ⟨hg, 0, none⟩ = some (.slice kA kn kc) ∧ wz.cell? ⟨s, 0, none⟩ = some (.slice LA ln lc)) (by kernel_rfl) ?_
      rw [← hv0]
      clear hv0
      refine wpAnyL_val (i := 0) (v := .pointer (some ⟨hg, 0, none⟩)) (d := some 49) rfl rfl (by kernel_rfl) (by kernel_rfl) (by kernel_rfl) (by kernel_rfl) (fun _ _ _ h => h) (Or.inl ⟨by rfl, fun w hS => by (obtain ⟨h0, h1⟩ := hS; go_simp)⟩) ⟨HJ0.out.bg.cell 0, HL0.out.1.cell 0⟩ ?_
      (try simp only [Act.put, List.setIfInBounds_toArray, List.set_cons_zero, List.set_cons_succ])
      refine wpAnyL_val (i := 1) (v := .slice kA kn kc) (d := some 50) rfl rfl (by kernel_rfl) (by kernel_rfl) (by kernel_rfl) (by kernel_rfl) (fun _ _ _ h => h) (Or.inl ⟨by rfl, fun w hS => by (obtain ⟨h0, h1⟩ := hS; go_simp)⟩) ⟨HJ0.out.bg.cell 0, HL0.out.1.cell 0⟩ ?_
      (try simp only [Act.put, List.setIfInBounds_toArray, List.set_cons_zero, List.set_cons_succ])
      refine wpAnyL_val (i := 2) (v := .pointer (some ⟨s, 0, none⟩)) (d := some 51) rfl rfl (by kernel_rfl) (by kernel_rfl) (by kernel_rfl) (by kernel_rfl) (fun _ _ _ h => h) (Or.inl ⟨by rfl, fun w hS => by (obtain ⟨h0, h1⟩ := hS; go_simp)⟩) ⟨HJ0.out.bg.cell 0, HL0.out.1.cell 0⟩ ?_
      (try simp only [Act.put, List.setIfInBounds_toArray, List.set_cons_zero, List.set_cons_succ])
      refine wpAnyL_val (i := 3) (v := .pointer (some ⟨s, 0, none⟩)) (d := some 52) rfl rfl (by kernel_rfl) (by kernel_rfl) (by kernel_rfl) (by kernel_rfl) (fun _ _ _ h => h) (Or.inl ⟨by rfl, fun w hS => by (obtain ⟨h0, h1⟩ := hS; go_simp)⟩) ⟨HJ0.out.bg.cell 0, HL0.out.1.cell 0⟩ ?_
      (try simp only [Act.put, List.setIfInBounds_toArray, List.set_cons_zero, List.set_cons_succ])
      refine wpAnyL_val (i := 4) (v := .pointer (some ⟨s, 0, none⟩)) (d := some 53) rfl rfl (by kernel_rfl) (by kernel_rfl) (by kernel_rfl) (by kernel_rfl) (fun _ _ _ h => h) (Or.inl ⟨by rfl, fun w hS => by (obtain ⟨h0, h1⟩ := hS; go_simp)⟩) ⟨HJ0.out.bg.cell 0, HL0.out.1.cell 0⟩ ?_
      (try simp only [Act.put, List.setIfInBounds_toArray, List.set_cons_zero, List.set_cons_succ])
      refine wpAnyL_val (i := 5) (v := .slice LA ln lc) (d := some 54) rfl rfl (by kernel_rfl) (by kernel_rfl) (by kernel_rfl) (by kernel_rfl) (fun _ _ _ h => h) (Or.inl ⟨by rfl, fun w hS => by (obtain ⟨h0, h1⟩ := hS; go_simp)⟩) ⟨HJ0.out.bg.cell 0, HL0.out.1.cell 0⟩ ?_
      (try simp only [Act.put, List.setIfInBounds_toArray, List.set_cons_zero, List.set_cons_succ])
      refine wpAnyL_one (i := 6) rfl (by kernel_rfl) (by rfl) ?_
      go_simp
      go_at_call 134
      (with_reducible refine (systems_any LA ln lc B zl v0 HL0.out.2 HL.out.2.1 HL.out.2.2.1 HL.out.2.2.2.1 HL.out.2.2.2.2.2 (HJ0.out.st.lo hBs) HJ0.out.ks HON.out.1 HON.out.2 HKL.out.2 HKL.out.1).mono ?_)
      rintro e v1 ⟨SA, sn, sc, rfl, hb1⟩
      have HJ1 : Hid (GaI v1 w0 B s hr hg kA kn kc ks #[.slice kA kn kc, .slice none 0 0, .slice pA N pc, .int .i64 pl, .int .i64 seed, .int .i64 0, .int .i64 gy, .int .i64 stp, .int .i64 fuel]) := Lib.hid (HJ0.out.next (HJ0.out.st.below hb1 (HJ0.out.st.lo hBs)) (Fq.of_below hb1))
      have HL1 : Hid (Bk v1 s 189 #[.slice LA ln lc]) := Lib.hid (HL0.out.1.below hb1 HL0.out.1.lt)
      clear hb1 HJ0 HL0 HL
      refine And.intro ⟨HJ1.out.bg.cell 0, HL1.out.cell 0⟩ ?_
      (try simp only [Act.put, List.setIfInBounds_toArray, List.set_cons_zero, List.set_cons_succ])
      refine wpAnyL_val (i := 7) (v := .pointer (some ⟨hg, 1, none⟩)) (d := some 56) rfl rfl (by kernel_rfl) (by kernel_rfl) (by kernel_rfl) (by kernel_rfl) (fun _ _ _ h => h) (Or.inl ⟨by rfl, fun w hS => by (obtain ⟨h0, h1⟩ := hS; go_simp)⟩) ⟨HJ1.out.bg.cell 0, HL1.out.cell 0⟩ ?_
      (try simp only [Act.put, List.setIfInBounds_toArray, List.set_cons_zero, List.set_cons_succ])
      have x1 : v1.cell? ⟨hg, 1, none⟩ = some (.slice none 0 0) := HJ1.out.bg.cell 1
      have f1 := HJ1.out.bg.frozen 1
      refine wpAnyL_late (i := 8) rfl (by kernel_rfl) (by rfl) (by kernel_rfl) ?_
      go_simp
      (try simp only [Act.put, List.setIfInBounds_toArray, List.set_cons_zero, List.set_cons_succ])
      refine wpAnyL_done (by kernel_rfl) ?_ _
      obtain ⟨v2, hv2⟩ : ∃ z, z = v1.setCell ⟨hg, 1, none⟩ (.slice SA sn sc) := ⟨_, rfl⟩
      have HJ2 : Hid (GaI v2 w0 B s hr hg kA kn kc ks #[.slice kA kn kc, .slice SA sn sc, .slice pA N pc, .int .i64 pl, .int .i64 seed, .int .i64 0, .int .i64 gy, .int .i64 stp, .int .i64 fuel]) := Lib.hid (by
        rw [hv2]
        have h := HJ1.out.set_ hBs hBg hrg hgw 1 (.slice SA sn sc)
        simpa using h)
      rw [← hv2]
      clear hv2 x1 f1 HJ1 HL1
      have c0 : v2.cell? ⟨hg, 0, none⟩ = some (.slice kA kn kc) := HJ2.out.bg.cell 0
      have z0 : v2.cell? ⟨hr, 0, none⟩ = some (.slice none 0 0) := HJ2.out.br.cell 0
      have y0 := HJ2.out.br.frozen 0
      have c1 : v2.cell? ⟨hg, 1, none⟩ = some (.slice SA sn sc) := HJ2.out.bg.cell 1
      have z1 : v2.cell? ⟨hr, 1, none⟩ = some (.slice none 0 0) := HJ2.out.br.cell 1
      have y1 := HJ2.out.br.frozen 1
      have c2 : v2.cell? ⟨hg, 2, none⟩ = some (.slice pA N pc) := HJ2.out.bg.cell 2
      have z2 : v2.cell? ⟨hr, 2, none⟩ = some (.slice none 0 0) := HJ2.out.br.cell 2
      have y2 := HJ2.out.br.frozen 2
      have c3 : v2.cell? ⟨hg, 3, none⟩ = some (.int .i64 pl) := HJ2.out.bg.cell 3
      have z3 : v2.cell? ⟨hr, 3, none⟩ = some (.int .i64 0) := HJ2.out.br.cell 3
      have y3 := HJ2.out.br.frozen 3
      have c4 : v2.cell? ⟨hg, 4, none⟩ = some (.int .i64 seed) := HJ2.out.bg.cell 4
      have z4 : v2.cell? ⟨hr, 4, none⟩ = some (.int .i64 0) := HJ2.out.br.cell 4
      have y4 := HJ2.out.br.frozen 4
      have c5 : v2.cell? ⟨hg, 5, none⟩ = some (.int .i64 0) := HJ2.out.bg.cell 5
      have z5 : v2.cell? ⟨hr, 5, none⟩ = some (.int .i64 0) := HJ2.out.br.cell 5
      have y5 := HJ2.out.br.frozen 5
      have c6 : v2.cell? ⟨hg, 6, none⟩ = some (.int .i64 gy) := HJ2.out.bg.cell 6
      have z6 : v2.cell? ⟨hr, 6, none⟩ = some (.int .i64 0) := HJ2.out.br.cell 6
      have y6 := HJ2.out.br.frozen 6
      have c7 : v2.cell? ⟨hg, 7, none⟩ = some (.int .i64 stp) := HJ2.out.bg.cell 7
      have z7 : v2.cell? ⟨hr, 7, none⟩ = some (.int .i64 0) := HJ2.out.br.cell 7
      have y7 := HJ2.out.br.frozen 7
      have c8 : v2.cell? ⟨hg, 8, none⟩ = some (.int .i64 fuel) := HJ2.out.bg.cell 8
      have z8 : v2.cell? ⟨hr, 8, none⟩ = some (.int .i64 0) := HJ2.out.br.cell 8
      have y8 := HJ2.out.br.frozen 8
      have HFIN : Hid (∀ V0 V1 V2 V3 V4 V5 V6 V7 V8, KsY (((((((((v2.setCell ⟨hr, 0, none⟩ V0).setCell ⟨hr, 1, none⟩ V1).setCell ⟨hr, 2, none⟩ V2).setCell ⟨hr, 3, none⟩ V3).setCell ⟨hr, 4, none⟩ V4).setCell ⟨hr, 5, none⟩ V5).setCell ⟨hr, 6, none⟩ V6).setCell ⟨hr, 7, none⟩ V7).setCell ⟨hr, 8, none⟩ V8) 0 kA kn kc ks ∧ Below w.heap.size w (((((((((v2.setCell ⟨hr, 0, none⟩ V0).setCell ⟨hr, 1, none⟩ V1).setCell ⟨hr, 2, none⟩ V2).setCell ⟨hr, 3, none⟩ V3).setCell ⟨hr, 4, none⟩ V4).setCell ⟨hr, 5, none⟩ V5).setCell ⟨hr, 6, none⟩ V6).setCell ⟨hr, 7, none⟩ V7).setCell ⟨hr, 8, none⟩ V8)) := Lib.hid fun V0 V1 V2 V3 V4 V5 V6 V7 V8 => by
        have hwr := HWR.out
        have hk9 : Kx 0 [110] v2 (((((((((v2.setCell ⟨hr, 0, none⟩ V0).setCell ⟨hr, 1, none⟩ V1).setCell ⟨hr, 2, none⟩ V2).setCell ⟨hr, 3, none⟩ V3).setCell ⟨hr, 4, none⟩ V4).setCell ⟨hr, 5, none⟩ V5).setCell ⟨hr, 6, none⟩ V6).setCell ⟨hr, 7, none⟩ V7).setCell ⟨hr, 8, none⟩ V8) := (((((((((Kx.refl.set HJ2.out.br (Nat.zero_le _) (by simp) 0 V0).set (HJ2.out.br.set_ 0 V0) (Nat.zero_le _) (by simp) 1 V1).set ((HJ2.out.br.set_ 0 V0).set_ 1 V1) (Nat.zero_le _) (by simp) 2 V2).set (((HJ2.out.br.set_ 0 V0).set_ 1 V1).set_ 2 V2) (Nat.zero_le _) (by simp) 3 V3).set ((((HJ2.out.br.set_ 0 V0).set_ 1 V1).set_ 2 V2).set_ 3 V3) (Nat.zero_le _) (by simp) 4 V4).set (((((HJ2.out.br.set_ 0 V0).set_ 1 V1).set_ 2 V2).set_ 3 V3).set_ 4 V4) (Nat.zero_le _) (by simp) 5 V5).set ((((((HJ2.out.br.set_ 0 V0).set_ 1 V1).set_ 2 V2).set_ 3 V3).set_ 4 V4).set_ 5 V5) (Nat.zero_le _) (by simp) 6 V6).set (((((((HJ2.out.br.set_ 0 V0).set_ 1 V1).set_ 2 V2).set_ 3 V3).set_ 4 V4).set_ 5 V5).set_ 6 V6) (Nat.zero_le _) (by simp) 7 V7).set ((((((((HJ2.out.br.set_ 0 V0).set_ 1 V1).set_ 2 V2).set_ 3 V3).set_ 4 V4).set_ 5 V5).set_ 6 V6).set_ 7 V7) (Nat.zero_le _) (by simp) 8 V8)
        have hbel : Below w.heap.size w v2 := HB0.out.trans (HJ2.out.fq.below (fun k hk => by rw [show k = s by simpa using hk]; omega) HB0.out.size)
        exact ⟨HJ2.out.ks.keep hk9 (by decide) (by decide), (((((((((hbel.setCell (p := ⟨hr, 0, none⟩) hwr V0).setCell (p := ⟨hr, 1, none⟩) hwr V1).setCell (p := ⟨hr, 2, none⟩) hwr V2).setCell (p := ⟨hr, 3, none⟩) hwr V3).setCell (p := ⟨hr, 4, none⟩) hwr V4).setCell (p := ⟨hr, 5, none⟩) hwr V5).setCell (p := ⟨hr, 6, none⟩) hwr V6).setCell (p := ⟨hr, 7, none⟩) hwr V7).setCell (p := ⟨hr, 8, none⟩) hwr V8)⟩
      clear HJ2
      go_wp2_with fail
      (try simp only [Exit.inBlock, Exit.then])
      refine bodyPost_ret (v := .agg #[.slice kA kn kc, .slice SA sn sc, .slice pA N pc, .int .i64 pl, .int .i64 seed, .int .i64 0, .int .i64 gy, .int .i64 stp, .int .i64 fuel]) ?_ rfl ⟨kA, SA, pA, kn, kc, sn, sc, N, pc, nk, ks, pl, seed, gy, stp, fuel, rfl, Lib.hid ⟨(HFIN.out _ _ _ _ _ _ _ _ _).1, HKN.out, hnk, HPL.out.1, HPL.out.2, HSF.out.1, HSF.out.2.1, HGY.out.1, HGY.out.2, HSTP.out.1, HSTP.out.2, HSF.out.2.2.1, HSF.out.2.2.2⟩, (HFIN.out _ _ _ _ _ _ _ _ _).2⟩
      rw [results_c1 rfl]
      go_simp
/-! ### Wg -/
set_option maxHeartbeats 3200000 in
theorem held_any {w : World} {B kn kc n c : Nat} {kA A : Option Addr} {ks : List Kd} {l : List Cm} (hk : KsOk w B kA kn kc ks) (hc : CsOk w B A n c l) :
    Calls Try.prog 107 #[.slice kA kn kc, .slice A n c] w fun e w' => e = .returned (.bool (heldF (ks.map Kd.p) (-1) (l.map Cm.p))) ∧ Below w.heap.size w w' := by
  obtain ⟨R, hR⟩ : ∃ R, R = heldF (ks.map Kd.p) (-1) (l.map Cm.p) := ⟨_, rfl⟩
  rw [← hR]
  have hcap := hk.cap
  have hcap2 := hk.cap2
  have hcc := hc.cap
  have hcc2 := hc.cap2
  have HK := Lib.hid hk
  have HC := Lib.hid hc
  have HR : Hid (R = heldF (ks.map Kd.p) (-1) ((l.drop 0).map Cm.p)) := Lib.hid (by rw [List.drop_zero]; exact hR)
  clear hk hc hR
  go_enter Try.func107, Try.ntmps107
  go_wp2_with fail
  go_loopw [5, 10] (fun lv iv wr => ∃ (i : Nat) (lst : Int), i ≤ n ∧ iv = .int .i64 i ∧ lv = .int .i64 lst ∧ -1 ≤ lst ∧ Hid (R = heldF (ks.map Kd.p) lst ((l.drop i).map Cm.p)) ∧ Hid (Below w.heap.size w wr)) (fun _ iv _ => n - (intOf iv).toNat)
  case atStart => exact ⟨0, -1, Nat.zero_le _, rfl, rfl, by omega, HR, Lib.hid (Below.refl _ _)⟩
  case round =>
    clear HR
    obtain ⟨i, lst, hi, rfl, rfl, hl1, HR, HW⟩ := hrel
    by_cases hlt : i < n
    · obtain ⟨x, hx⟩ : ∃ x, l[i]? = some x := ⟨_, List.getElem?_eq_getElem (by have := HC.out.len; omega)⟩
      have hB := HC.out.lo
      have hrr := HR.out
      rw [List.drop_eq_getElem_cons (by have := HC.out.len; omega), (List.getElem?_eq_some_iff.1 hx).2, List.map_cons] at hrr
      have hrr2 : R = (heldOne (ks.map Kd.p) lst x.p && heldF (ks.map Kd.p) x.k ((l.drop (i + 1)).map Cm.p)) := hrr
      have hcw := HC.out.below (HW.out.mono hB)
      have hkw := HK.out.below (HW.out.mono hB)
      have hxo := hcw.ok x (List.mem_of_getElem? hx)
      have hxr := bounds_i64 hxo.wf
      obtain ⟨b, o, rfl, hbb, q0, q1⟩ := hcw.rd.cm hlt hx
      have hiz : (i : Int) < n := by omega
      obtain ⟨xk, hxk⟩ : ∃ xk, xk = x.k := ⟨_, rfl⟩
      obtain ⟨xA, hxA⟩ : ∃ xA, xA = x.A := ⟨_, rfl⟩
      obtain ⟨xn, hxn⟩ : ∃ xn, xn = x.n := ⟨_, rfl⟩
      obtain ⟨xc, hxc⟩ : ∃ xc, xc = x.c := ⟨_, rfl⟩
      rw [← hxk] at q0 hxr hrr2
      rw [← hxA, ← hxn, ← hxc] at q1
      have HXK := Lib.hid hxk
      have HXO := Lib.hid hxo
      have HRR := Lib.hid hrr2
      have HX3 := Lib.hid (And.intro hxA (And.intro hxn hxc))
      have HKW := Lib.hid hkw
      clear hx hrr hrr2 hcw hxo hxk hxA hxn hxc hkw HR
      have hb1 := (Below.refl wr.heap.size wr).alloc (Nat.le_refl _) (.cells #[.int .i64 xk, .slice xA xn xc] 166)
      have hh1 := Bk.new wr 166 #[.int .i64 xk, .slice xA xn xc]
      have HB1 := Lib.hid hb1
      have HH1 := Lib.hid hh1
      clear hb1 hh1
      have HB1w := Lib.hid (HW.out.trans (HB1.out.mono HW.out.size))
      have hl1' := hcap2
      by_cases h1 : xk ≤ lst
      · have hRf : R = false := by
          rw [HRR.out]; unfold heldOne Cm.p
          rw [← HXK.out, decide_eq_false (show ¬ lst < xk by omega)]; rfl
        subst hRf
        go_wp2_with fail
        generalize wr.alloc (.cells #[.int .i64 xk, .slice xA xn xc] 166) = W1 at *
        generalize wr.heap.size = hh at *
        have c0 : W1.cell? ⟨hh, 0, none⟩ = some (.int .i64 xk) := HH1.out.cell 0
        have c1 : W1.cell? ⟨hh, 1, none⟩ = some (.slice xA xn xc) := HH1.out.cell 1
        go_quiet (fail)
        have HWn := Lib.hid (below_dn HB1w.out nq)
        go_wp2_with fail
        go_ret
        exact ⟨rfl, HWn.out⟩
      · obtain ⟨K, rfl⟩ : ∃ K : Nat, xk = K := ⟨xk.toNat, by omega⟩
        by_cases h2 : kn ≤ K
        · have hRf : R = false := by
            rw [HRR.out]; unfold heldOne Cm.p
            rw [← HXK.out, Int.toNat_natCast, List.getElem?_eq_none (by rw [List.length_map, ← HK.out.len]; exact h2)]
            simp
          subst hRf
          have h2z : (kn : Int) ≤ K := by omega
          have t0 : decide ((K : Int) ≤ lst) = false := decide_eq_false h1
          have t1 : decide ((kn : Int) ≤ K) = true := decide_eq_true h2z
          go_wp2_with fail
          generalize wr.alloc (.cells #[.int .i64 (K : Int), .slice xA xn xc] 166) = W1 at *
          generalize wr.heap.size = hh at *
          have c0 : W1.cell? ⟨hh, 0, none⟩ = some (.int .i64 K) := HH1.out.cell 0
          have c1 : W1.cell? ⟨hh, 1, none⟩ = some (.slice xA xn xc) := HH1.out.cell 1
          go_quiet (fail)
          have HWn := Lib.hid (below_dn HB1w.out nq)
          go_wp2_with fail
          go_ret
          exact ⟨rfl, HWn.out⟩
        · have h2z : (K : Int) < kn := by omega
          have t0 : decide ((K : Int) ≤ lst) = false := decide_eq_false h1
          have t1 : decide ((kn : Int) ≤ K) = false := decide_eq_false (by omega)
          have t1' : decide (kn ≤ K) = false := decide_eq_false h2
          obtain ⟨kd, hkd⟩ : ∃ kd, ks[K]? = some kd := ⟨_, List.getElem?_eq_getElem (by have := HK.out.len; omega)⟩
          have hko := HKW.out.ok kd (List.mem_of_getElem? hkd)
          obtain ⟨kb, ko, rfl, hkb, k0, k1⟩ := HKW.out.rd.kd (by omega) hkd
          have hHo : heldOne (ks.map Kd.p) lst x.p = holdsF kd.nm kd.fds x.vals := by
            unfold heldOne Cm.p
            rw [← HXK.out, decide_eq_true (show lst < (K : Int) by omega), Int.toNat_natCast, List.getElem?_map, hkd]
            rfl
          have hrr := HRR.out
          rw [hHo] at hrr
          have hw1 := HB1.out
          have hBw : B ≤ wr.heap.size := Nat.le_trans hB HW.out.size
          have hB1B : Below B wr (wr.alloc (.cells #[.int .i64 (K : Int), .slice xA xn xc] 166)) := (hw1.mono hBw)
          have hho := fun wx (hbx : Below (wr.heap.size + 1) (wr.alloc (.cells #[.int .i64 (K : Int), .slice xA xn xc] 166)) wx) =>
            holds_any kd.nm kd.A kd.n kd.c kd.fds xA xn xc B x.vals wx (hko.rd.below (hB1B.trans (hbx.mono (by omega)))) hko.len hko.cap hko.cap2
            (by have h := HXO.out.rd.below (hB1B.trans (hbx.mono (by omega))); rw [← HX3.out.1, ← HX3.out.2.1] at h; exact h) (by rw [HX3.out.2.1]; exact HXO.out.len) (by rw [HX3.out.2.1, HX3.out.2.2]; exact HXO.out.cap) (by rw [HX3.out.2.2]; exact HXO.out.cap2) (by have := hbx.size; simp at this; omega)
          have k0' := (hB1B.cell (p := ⟨kb, ko + K * 2, none⟩) hkb).trans k0
          have k1' := (hB1B.cell (p := ⟨kb, ko + K * 2 + 1, none⟩) hkb).trans k1
          obtain ⟨hv, hhv⟩ : ∃ hv, hv = holdsF kd.nm kd.fds x.vals := ⟨_, rfl⟩
          rw [← hhv] at hho hrr
          have HHO := Lib.hid hho
          have HRX := Lib.hid hrr
          generalize kd.nm = dn at *
          generalize kd.A = dA at *
          generalize kd.n = dm at *
          generalize kd.c = dc at *
          clear hho hrr hhv hkd hko hHo k0 k1 hw1 HRR
          go_wp2_with fail
          have hszz : (wr.alloc (.cells #[.int .i64 (K : Int), .slice xA xn xc] 166)).heap.size = wr.heap.size + 1 := by simp
          have HSZ := Lib.hid hszz
          clear hszz
          generalize (wr.alloc (.cells #[.int .i64 (K : Int), .slice xA xn xc] 166)) = W1 at *
          generalize wr.heap.size = hh at *
          have c0 : W1.cell? ⟨hh, 0, none⟩ = some (.int .i64 K) := HH1.out.cell 0
          have c1 : W1.cell? ⟨hh, 1, none⟩ = some (.slice xA xn xc) := HH1.out.cell 1
          have HRT : Hid (R = (hv && heldF (ks.map Kd.p) K ((l.drop (i + 1)).map Cm.p))) := HRX
          clear HRX h2 HW HB1 HXO HX3 HKW
          go_still_tail 19, (by kernel_rfl)
          change wpList _ _ _ _ _ W1.drew
          have HB2 : Hid (Below (hh + 1) W1 W1.drew) := Lib.hid (Below.refl _ _).drew
          have HHD : Hid (Bk W1.drew hh 166 #[.int .i64 (K : Int), .slice xA xn xc]) := Lib.hid HH1.out.drew
          have HBD : Hid (Below w.heap.size w W1.drew) := Lib.hid HB1w.out.drew
          have HHO2 := Lib.hid (HHO.out _ HB2.out)
          clear HHO HB2 c0 c1 k0' k1' HSZ HH1 HB1w hB1B
          generalize W1.drew = W2 at *
          go_wp2_with fail
          (with_reducible refine HHO2.out.mono ?_)
          rintro e w3 ⟨rfl, hb3⟩
          have hh3 := HHD.out.below hb3 HHD.out.lt
          have e0 : w3.cell? ⟨hh, 0, none⟩ = some (.int .i64 K) := hh3.cell 0
          have HB3 := Lib.hid (HBD.out.trans (hb3.mono HBD.out.size))
          clear hb3 hh3
          cases hv
          · have hRf : R = false := by rw [HRT.out]; rfl
            subst hRf
            go_wp2_with fail
            go_ret
            exact ⟨rfl, HB3.out⟩
          · have HRN : Hid (R = heldF (ks.map Kd.p) K ((l.drop (i + 1)).map Cm.p)) := Lib.hid (by rw [HRT.out]; rfl)
            go_wp2_with fail
            go_roundw
            case measure => simp [intOf]; omega
            case rel => exact ⟨i + 1, K, by omega, by go_num, rfl, by omega, HRN, HB3⟩
    · obtain rfl : i = n := by omega
      have hR2 := HR.out
      rw [List.drop_of_length_le (by rw [← HC.out.len]; omega)] at hR2
      have hR3 : R = true := hR2
      subst hR3
      go_wp2_with fail
      go_ret
      exact ⟨rfl, HW.out⟩
/-! ### Mc -/
theorem wcheckF_ks {w : Wv Kp2} (h : checkF w.ks ≠ 0) : wcheckF w = checkF w.ks := by unfold wcheckF; rw [if_pos h]
theorem wcheckF_big {w : Wv Kp2} (h : checkF w.ks = 0) (h2 : 256 < w.gens.length ∨ w.gens.length < w.its.length) : wcheckF w = 2 := by unfold wcheckF; rw [if_neg (by omega), if_pos h2]
theorem wcheckF_gen {w : Wv Kp2} (h : checkF w.ks = 0) (h2 : ¬ (256 < w.gens.length ∨ w.gens.length < w.its.length)) {g : Int} (hg : g ∈ w.gens) (hb : genOk g = false) : wcheckF w = 3 := by
  unfold wcheckF; rw [if_neg (by omega), if_neg h2, if_neg]
  intro e
  rw [List.all_eq_true.1 e g hg] at hb; cases hb
theorem wcheckF_its {w : Wv Kp2} (h : checkF w.ks = 0) (h2 : ¬ (256 < w.gens.length ∨ w.gens.length < w.its.length)) (hg : ∀ g ∈ w.gens, genOk g = true) : wcheckF w = if itChk w.ks w.gens (-1) w.its = true then 0 else 3 := by
  unfold wcheckF; rw [if_neg (by omega), if_neg h2, if_pos (List.all_eq_true.2 hg)]
set_option maxHeartbeats 3200000 in
theorem wcheck_any {w : World} {B : Nat} {x : Wd} (h : WdOk w B x) : Calls Try.prog 32 #[x.v] w fun e w' => e = .returned (.int .i64 (wcheckF x.p)) ∧ Below w.heap.size w w' := by
  obtain ⟨R, hR⟩ : ∃ R, R = wcheckF x.p := ⟨_, rfl⟩
  rw [← hR]
  obtain ⟨kA, kn, kc, ks, gA, gn, gc, gens, iA, im, ic, its⟩ := x
  obtain ⟨hk, hg, hi⟩ := h
  dsimp only at hk hg hi
  show Calls Try.prog 32 #[.agg #[.slice kA kn kc, .slice gA gn gc, .slice iA im ic]] w _
  have hgc := hg.cap
  have hgc2 := hg.cap2
  have hic := hi.cap
  have hic2 := hi.cap2
  have hb1 := (Below.refl w.heap.size w).alloc (Nat.le_refl _) (.cells #[.slice kA kn kc, .slice gA gn gc, .slice iA im ic] 52)
  have hk1 := Bk.new w 52 #[.slice kA kn kc, .slice gA gn gc, .slice iA im ic]
  have h1 := hk.below (hb1.mono hk.lo)
  have hck := check_any kA kn kc B ks _ h1.rd h1.len h1.cap h1.cap2 h1.ok h1.lo
  obtain ⟨cv, hcv⟩ : ∃ cv, cv = checkF (ks.map Kd.p) := ⟨_, rfl⟩
  rw [← hcv] at hck
  have HCV := Lib.hid hcv
  have HR := Lib.hid hR
  have HK := Lib.hid hk
  have HG := Lib.hid hg
  have HI := Lib.hid hi
  have HB1 := Lib.hid hb1
  have HK1 := Lib.hid hk1
  have HCK := Lib.hid hck
  clear hR hk hg hi hb1 hk1 h1 hck hcv
  go_enter Try.func32, Try.ntmps32
  go_wp2_with fail
  (with_reducible refine HCK.out.mono ?_)
  rintro e w2 ⟨rfl, hb2⟩
  have hk2 := HK1.out.below hb2 HK1.out.lt
  have HB2 := Lib.hid (HB1.out.trans (hb2.mono HB1.out.size))
  have c0 : w2.cell? ⟨w.heap.size, 0, none⟩ = some (.slice kA kn kc) := hk2.cell 0
  have c1 : w2.cell? ⟨w.heap.size, 1, none⟩ = some (.slice gA gn gc) := hk2.cell 1
  have c2 : w2.cell? ⟨w.heap.size, 2, none⟩ = some (.slice iA im ic) := hk2.cell 2
  have HK2 := Lib.hid hk2
  clear hk2 hb2 HB1 HK1 HCK
  have hB := HK.out.lo
  by_cases hc0 : cv = 0
  · subst hc0
    by_cases hg256 : 256 < gn
    · have hz : (256 : Int) < gn := by omega
      have hRR : R = 2 := by
        rw [HR.out]
        exact wcheckF_big HCV.out.symm (.inl (by show 256 < gens.length; have := HG.out.len; omega))
      subst hRR
      go_wp2_with fail
      go_ret
      exact ⟨rfl, HB2.out⟩
    · have hz : ¬ (256 : Int) < gn := by omega
      by_cases hgi : gn < im
      · have hz2 : (gn : Int) < im := by omega
        have hRR : R = 2 := by
          rw [HR.out]
          exact wcheckF_big HCV.out.symm (.inr (by show gens.length < (its.map It.p).length; have := HG.out.len; have := HI.out.len; rw [List.length_map]; omega))
        subst hRR
        go_wp2_with fail
        go_ret
        exact ⟨rfl, HB2.out⟩
      · have hz2 : ¬ (gn : Int) < im := by omega
        have HNB : Hid (¬ (256 < gens.length ∨ gens.length < (its.map It.p).length)) := Lib.hid (by have := HG.out.len; have := HI.out.len; rw [List.length_map]; omega)
        go_wp2_with fail
        go_loopw [31] (fun iv wr => ∃ k : Nat, k ≤ gn ∧ iv = .int .i64 k ∧ Hid (∀ g ∈ gens.take k, genOk g = true) ∧ w2 = wr) (fun iv _ => gn - (intOf iv).toNat)
        case atStart => exact ⟨0, Nat.zero_le _, rfl, Lib.hid (fun g hg => by simp at hg), rfl⟩
        case round =>
          obtain ⟨k, hk, rfl, HA, rfl⟩ := hrel
          by_cases hlt : k < gn
          · obtain ⟨g, hg⟩ : ∃ g, gens[k]? = some g := ⟨_, List.getElem?_eq_getElem (by have := HG.out.len; omega)⟩
            obtain ⟨b, o, rfl, hbb, q0⟩ := ((HG.out.rd).below (HB2.out.mono HG.out.lo)).at1 hlt (u := .int .i64 g) (by rw [List.getElem?_map, hg]; rfl)
            have HGK := Lib.hid hg
            have hkz : (k : Int) < gn := by omega
            clear hg
            by_cases h0 : g < 0
            · have hRR : R = 3 := by
                rw [HR.out]
                exact wcheckF_gen HCV.out.symm HNB.out (List.mem_of_getElem? HGK.out) (by unfold genOk; rw [decide_eq_false (show ¬ 0 ≤ g by omega)]; rfl)
              subst hRR
              go_wp2_with fail
              go_ret
              exact ⟨rfl, HB2.out⟩
            · by_cases hM : 1073741824 < g
              · have hRR : R = 3 := by
                  rw [HR.out]
                  exact wcheckF_gen HCV.out.symm HNB.out (List.mem_of_getElem? HGK.out) (by unfold genOk; rw [decide_eq_false (show ¬ g ≤ 1073741824 by omega)]; simp)
                subst hRR
                go_wp2_with fail
                go_ret
                exact ⟨rfl, HB2.out⟩
              · go_wp2_with fail
                go_roundw
                case measure => simp [intOf]; omega
                case rel => exact ⟨k + 1, by omega, by go_num, Lib.hid (fun y hy => by
                  rw [List.take_add_one, HGK.out] at hy
                  rcases List.mem_append.1 hy with hy | hy
                  · exact HA.out y hy
                  · have e : y = g := by simpa using hy
                    rw [e]; unfold genOk; rw [decide_eq_true (show 0 ≤ g by omega), decide_eq_true (show g ≤ 1073741824 by omega)]; rfl), trivial⟩
          · obtain rfl : gn = k := by omega
            have HRI : Hid (R = if itChk (ks.map Kd.p) gens (-1) ((its.drop 0).map It.p) = true then 0 else 3) := Lib.hid (by
              have hA := HA.out
              rw [List.take_of_length_le (by rw [← HG.out.len]; omega)] at hA
              rw [HR.out, List.drop_zero]
              exact wcheckF_its HCV.out.symm HNB.out hA)
            clear HA HR
            go_wp2_with fail
            go_loopw [6, 45] (fun lv iv wr => ∃ (i : Nat) (lst : Int), i ≤ im ∧ iv = .int .i64 i ∧ lv = .int .i64 lst ∧ -1 ≤ lst ∧ Hid (R = if itChk (ks.map Kd.p) gens lst ((its.drop i).map It.p) = true then 0 else 3) ∧ Hid (Below w2.heap.size w2 wr)) (fun _ iv _ => im - (intOf iv).toNat)
            case atStart => exact ⟨0, -1, Nat.zero_le _, rfl, rfl, by omega, HRI, Lib.hid (Below.refl _ _)⟩
            case round =>
              clear HRI c0 c1 c2
              obtain ⟨i, lst, hi, rfl, rfl, hl1, HRI, HW⟩ := hrel
              by_cases hil : i < im
              · obtain ⟨x, hx⟩ : ∃ x, its[i]? = some x := ⟨_, List.getElem?_eq_getElem (by have := HI.out.len; omega)⟩
                have hrr := HRI.out
                rw [List.drop_eq_getElem_cons (by have := HI.out.len; omega), (List.getElem?_eq_some_iff.1 hx).2, List.map_cons] at hrr
                have hrr2 : R = if (itOne (ks.map Kd.p) gens lst x.p && itChk (ks.map Kd.p) gens x.e ((its.drop (i + 1)).map It.p)) = true then 0 else 3 := hrr
                have hbw : Below B w wr := (HB2.out.mono hB).trans (HW.out.mono (Nat.le_trans hB HB2.out.size))
                obtain ⟨b, o, rfl, hbb, q0, q1, q2⟩ := (HI.out.below hbw).rd.it hil hx
                have hxo := (HI.out.below hbw).ok x (List.mem_of_getElem? hx)
                have hxr := bounds_i64 hxo.wf1
                have hiz : (i : Int) < im := by omega
                obtain ⟨xe, hxe⟩ : ∃ v, v = x.e := ⟨_, rfl⟩
                obtain ⟨xg, hxg⟩ : ∃ v, v = x.g := ⟨_, rfl⟩
                obtain ⟨xA, hxA⟩ : ∃ v, v = x.A := ⟨_, rfl⟩
                obtain ⟨xn, hxn⟩ : ∃ v, v = x.n := ⟨_, rfl⟩
                obtain ⟨xc, hxc⟩ : ∃ v, v = x.c := ⟨_, rfl⟩
                rw [← hxe] at q0 hxr hrr2
                rw [← hxg] at q1
                rw [← hxA, ← hxn, ← hxc] at q2
                have hcso := hxo.cs
                rw [← hxA, ← hxn, ← hxc] at hcso
                have HP : Hid (x.p = ((xe, xg), x.cms.map Cm.p)) := Lib.hid (by rw [hxe, hxg]; rfl)
                have HCS := Lib.hid hcso
                have HRR := Lib.hid hrr2
                have HKW := Lib.hid (HK.out.below hbw)
                have HGW := Lib.hid (HG.out.below hbw)
                have hb1 := (Below.refl wr.heap.size wr).alloc (Nat.le_refl _) (.cells #[.int .i64 xe, .int .i64 xg, .slice xA xn xc] 147)
                have hh1 := Bk.new wr 147 #[.int .i64 xe, .int .i64 xg, .slice xA xn xc]
                have hkd : Bk (wr.alloc (.cells #[.int .i64 xe, .int .i64 xg, .slice xA xn xc] 147)) w.heap.size 52 #[.slice kA kn kc, .slice gA gn gc, .slice (some ⟨b, o, none⟩) im ic] := (HK2.out.below HW.out HK2.out.lt).alloc _
                have HB1w := Lib.hid (HB2.out.trans ((HW.out.trans (hb1.mono HW.out.size)).mono HB2.out.size))
                have HBB := Lib.hid (hb1.mono (Nat.le_trans hB hbw.size))
                have HW1 := Lib.hid (HW.out.trans (hb1.mono HW.out.size))
                have HH1 := Lib.hid hh1
                have HKD := Lib.hid hkd
                have hBr := hbw.size
                clear hx hrr hrr2 hxo hcso hxe hxg hxA hxn hxc hb1 hh1 hkd hbw HRI
                by_cases hA : xe ≤ lst
                · have hRf : R = 3 := by
                    rw [HRR.out, HP.out]; unfold itOne
                    rw [decide_eq_false (show ¬ lst < xe by omega), Bool.false_and, Bool.false_and]; rfl
                  subst hRf
                  have t0 : decide (xe ≤ lst) = true := decide_eq_true hA
                  go_wp2_with fail
                  generalize wr.alloc (.cells #[.int .i64 xe, .int .i64 xg, .slice xA xn xc] 147) = W1 at *
                  generalize wr.heap.size = hh at *
                  have e0 : W1.cell? ⟨hh, 0, none⟩ = some (.int .i64 xe) := HH1.out.cell 0
                  go_quiet (fail)
                  have HWn := Lib.hid (below_dn HB1w.out nq)
                  go_wp2_with fail
                  go_ret
                  exact ⟨rfl, HWn.out⟩
                · obtain ⟨N, rfl⟩ : ∃ N : Nat, xe = N := ⟨xe.toNat, by omega⟩
                  have t0 : decide ((N : Int) ≤ lst) = false := decide_eq_false hA
                  by_cases hBn : gn ≤ N
                  · have hRf : R = 3 := by
                      rw [HRR.out, HP.out]; unfold itOne
                      rw [Int.toNat_natCast, List.getElem?_eq_none (by rw [← HG.out.len]; exact hBn)]
                      simp
                    subst hRf
                    have t1 : decide ((gn : Int) ≤ N) = true := decide_eq_true (by omega)
                    have t1' : decide (gn ≤ N) = true := decide_eq_true hBn
                    go_wp2_with fail
                    generalize wr.alloc (.cells #[.int .i64 (N : Int), .int .i64 xg, .slice xA xn xc] 147) = W1 at *
                    generalize wr.heap.size = hh at *
                    have e0 : W1.cell? ⟨hh, 0, none⟩ = some (.int .i64 N) := HH1.out.cell 0
                    have e1 : W1.cell? ⟨w.heap.size, 1, none⟩ = some (.slice gA gn gc) := HKD.out.cell 1
                    go_quiet (fail)
                    have HWn := Lib.hid (below_dn HB1w.out nq)
                    go_wp2_with fail
                    go_ret
                    exact ⟨rfl, HWn.out⟩
                  · have t1 : decide ((gn : Int) ≤ N) = false := decide_eq_false (by omega)
                    have t1' : decide (gn ≤ N) = false := decide_eq_false hBn
                    have hNz : (N : Int) < gn := by omega
                    obtain ⟨g, hg⟩ : ∃ g, gens[N]? = some g := ⟨_, List.getElem?_eq_getElem (by have := HG.out.len; omega)⟩
                    obtain ⟨gb, go, rfl, hgb, g0⟩ := HGW.out.rd.at1 (k := N) (by omega) (u := .int .i64 g) (by rw [List.getElem?_map, hg]; rfl)
                    have g1 := (HBB.out.cell (p := ⟨gb, go + N, none⟩) hgb).trans g0
                    have hone : itOne (ks.map Kd.p) gens lst x.p = (decide (g = xg) && (decide (xg ≠ 1073741824) && heldF (ks.map Kd.p) (-1) (x.cms.map Cm.p))) := by
                      rw [HP.out]; unfold itOne
                      rw [decide_eq_true (show lst < (N : Int) by omega), Int.toNat_natCast, hg, Bool.true_and]
                      simp
                    have HON := Lib.hid hone
                    clear hone g0 hg
                    by_cases hC : g = xg
                    · subst hC
                      have t2 : (g != g) = false := by simp
                      by_cases hD : g = 1073741824
                      · have hRf : R = 3 := by
                          rw [HRR.out, HON.out]
                          simp [hD]
                        subst hRf
                        have t3 : (g == 1073741824) = true := by simp [hD]
                        clear hD
                        go_wp2_with fail
                        generalize wr.alloc (.cells #[.int .i64 (N : Int), .int .i64 g, .slice xA xn xc] 147) = W1 at *
                        generalize wr.heap.size = hh at *
                        have e0 : W1.cell? ⟨hh, 0, none⟩ = some (.int .i64 N) := HH1.out.cell 0
                        have e2 : W1.cell? ⟨hh, 1, none⟩ = some (.int .i64 g) := HH1.out.cell 1
                        have e1 : W1.cell? ⟨w.heap.size, 1, none⟩ = some (.slice (some ⟨gb, go, none⟩) gn gc) := HKD.out.cell 1
                        go_quiet (fail)
                        have HWn := Lib.hid (below_dn HB1w.out nq)
                        go_wp2_with fail
                        go_ret
                        exact ⟨rfl, HWn.out⟩
                      · have t3 : (g == 1073741824) = false := by simp [hD]
                        obtain ⟨hv, hhv⟩ : ∃ hv, hv = heldF (ks.map Kd.p) (-1) (x.cms.map Cm.p) := ⟨_, rfl⟩
                        have HRX : Hid (R = if (hv && itChk (ks.map Kd.p) gens N ((its.drop (i + 1)).map It.p)) = true then 0 else 3) := Lib.hid (by
                          rw [HRR.out, HON.out, ← hhv, decide_eq_true rfl, decide_eq_true hD, Bool.true_and, Bool.true_and])
                        have hho := fun wx (hbx : Below B wr wx) => held_any (HKW.out.below hbx) (HCS.out.below hbx)
                        rw [← hhv] at hho
                        have HHO := Lib.hid hho
                        clear hho hhv hD HRR HON HP HCS HGW HKW
                        go_wp2_with fail
                        generalize wr.alloc (.cells #[.int .i64 (N : Int), .int .i64 g, .slice xA xn xc] 147) = W1 at *
                        generalize wr.heap.size = hh at *
                        have e0 : W1.cell? ⟨hh, 0, none⟩ = some (.int .i64 N) := HH1.out.cell 0
                        have e2 : W1.cell? ⟨hh, 1, none⟩ = some (.int .i64 g) := HH1.out.cell 1
                        have e3 : W1.cell? ⟨hh, 2, none⟩ = some (.slice xA xn xc) := HH1.out.cell 2
                        have e4 : W1.cell? ⟨w.heap.size, 0, none⟩ = some (.slice kA kn kc) := HKD.out.cell 0
                        have e1 : W1.cell? ⟨w.heap.size, 1, none⟩ = some (.slice (some ⟨gb, go, none⟩) gn gc) := HKD.out.cell 1
                        go_still_tail 38, (by kernel_rfl)
                        change wpList _ _ _ _ _ W1.drew
                        have HHD : Hid (Bk W1.drew hh 147 #[.int .i64 (N : Int), .int .i64 g, .slice xA xn xc]) := Lib.hid HH1.out.drew
                        have HBD : Hid (Below w.heap.size w W1.drew) := Lib.hid HB1w.out.drew
                        have HHO2 := Lib.hid (HHO.out _ HBB.out.drew)
                        have HBW2 : Hid (Below w2.heap.size w2 W1.drew) := Lib.hid HW1.out.drew
                        clear HHO e0 e1 e2 e3 e4 g1 HH1 HB1w HBB HKD
                        generalize W1.drew = W2 at *
                        go_wp2_with fail
                        (with_reducible refine HHO2.out.mono ?_)
                        rintro e w3 ⟨rfl, hb3⟩
                        have hh3 := HHD.out.below hb3 HHD.out.lt
                        have e0 : w3.cell? ⟨hh, 0, none⟩ = some (.int .i64 N) := hh3.cell 0
                        have HB3 := Lib.hid (HBD.out.trans (hb3.mono HBD.out.size))
                        have HB3w := Lib.hid (HBW2.out.trans (hb3.mono HBW2.out.size))
                        clear hb3 hh3
                        cases hv
                        · have hRf : R = 3 := by rw [HRX.out]; rfl
                          subst hRf
                          go_wp2_with fail
                          go_ret
                          exact ⟨rfl, HB3.out⟩
                        · have HRN : Hid (R = if itChk (ks.map Kd.p) gens N ((its.drop (i + 1)).map It.p) = true then 0 else 3) := Lib.hid (by rw [HRX.out]; rfl)
                          go_wp2_with fail
                          go_roundw
                          case measure => simp [intOf]; omega
                          case rel => exact ⟨i + 1, N, by omega, by go_num, rfl, by omega, HRN, HB3w⟩
                    · have hRf : R = 3 := by
                        rw [HRR.out, HON.out, decide_eq_false hC]; rfl
                      subst hRf
                      have t2 : (xg != g) = true := by simp; omega
                      go_wp2_with fail
                      generalize wr.alloc (.cells #[.int .i64 (N : Int), .int .i64 xg, .slice xA xn xc] 147) = W1 at *
                      generalize wr.heap.size = hh at *
                      have e0 : W1.cell? ⟨hh, 0, none⟩ = some (.int .i64 N) := HH1.out.cell 0
                      have e2 : W1.cell? ⟨hh, 1, none⟩ = some (.int .i64 xg) := HH1.out.cell 1
                      have e1 : W1.cell? ⟨w.heap.size, 1, none⟩ = some (.slice (some ⟨gb, go, none⟩) gn gc) := HKD.out.cell 1
                      go_quiet (fail)
                      have HWn := Lib.hid (below_dn HB1w.out nq)
                      go_wp2_with fail
                      go_ret
                      exact ⟨rfl, HWn.out⟩
              · obtain rfl : i = im := by omega
                have hR2 := HRI.out
                rw [List.drop_of_length_le (by rw [← HI.out.len]; omega)] at hR2
                have hR3 : R = 0 := by rw [hR2]; rfl
                subst hR3
                have HWf := Lib.hid (HB2.out.trans (HW.out.mono HB2.out.size))
                go_wp2_with fail
                go_ret
                exact ⟨rfl, HWf.out⟩
  · have hRR : R = cv := by rw [HR.out, wcheckF_ks (show checkF (ks.map Kd.p) ≠ 0 from fun e => hc0 (by rw [HCV.out]; exact e)), HCV.out]; rfl
    subst hRR
    have hcb : (R != 0) = true := by simp [hc0]
    go_wp2_with fail
    go_ret
    exact ⟨rfl, HB2.out⟩
end Go.Proofs.Ytnidcmhfbkdioaa
