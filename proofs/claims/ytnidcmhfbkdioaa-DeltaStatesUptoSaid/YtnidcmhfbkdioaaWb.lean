/-
  The contract of tourmake.kinds. Conditions: a stream of numbers.
-/
import Derived.Test.YtnidcmhfbkdioaaWa
namespace Go.Proofs.Ytnidcmhfbkdioaa
open Go.RowKit
set_option maxRecDepth 100000

def genN (k : Nat) : ByteArray := if k = 0 then ⟨#[115, 112, 111, 116]⟩ else if k = 1 then ⟨#[108, 105, 102, 101]⟩ else if k = 2 then ⟨#[116, 101, 97, 109]⟩ else ⟨#[103, 111, 97, 108]⟩
def genX (i : Nat) : ByteArray := if i = 0 then ⟨#[120]⟩ else if i = 1 then ⟨#[121]⟩ else ⟨#[122]⟩
structure GenF (f : Fd) : Prop where
  b : (1 ≤ f.bits ∧ f.bits ≤ 9 ∧ -30 ≤ f.low ∧ f.low ≤ 9) ∨ (f.bits = 32 ∧ f.low = -2147483648)
structure GenFs (l : List Fd) : Prop where
  g : ∀ i f, l[i]? = some f → f.nm = genX i ∧ GenF f
structure GenKs (l : List (ByteArray × List Fd)) : Prop where
  g : ∀ i k, l[i]? = some k → k.1 = genN i ∧ 1 ≤ k.2.length ∧ k.2.length ≤ 3 ∧ GenFs k.2

/-- A kind whose fields lie in a block of their type. -/
structure KdT (w : World) (k : Kd) : Prop where
  tr : Tr w 66 3 k.A k.n (fdCs k.fds)
  len : k.n = k.fds.length
  cap : k.n ≤ k.c
  cap2 : k.c ≤ 9223372036854775807
theorem T.infoKd : (Try.prog.info? 63).map (fun i => (i.zero, i.size, i.bytes)) = some (some (.agg #[.string ByteArray.empty, .slice none 0 0]), 2, 40) := by kernel_rfl
theorem T.infoFd : (Try.prog.info? 66).map (fun i => (i.zero, i.size, i.bytes)) = some (some (.agg #[.string ByteArray.empty, .int .i64 0, .int .i64 0]), 3, 32) := by kernel_rfl
structure KsI (w wr : World) (KA : Option Addr) (k kc : Nat) (ks : List Kd) : Prop where
  len : ks.length = k
  own : wr.ownsRow w.heap.size 63 2 (.slice KA k kc) k (kdCs ks)
  gen : GenKs (ks.map Kd.p)
  ok : ∀ x ∈ ks, KdT wr x
theorem KsI.fq {w wr w' : World} {KA : Option Addr} {k kc s B : Nat} {ks : List Kd} (h : KsI w wr KA k kc ks) (hq : Fq [s] wr w') (hs : StrSt wr B s) : KsI w w' KA k kc ks := by
  obtain ⟨cs, hb⟩ := hs.bk
  refine ⟨h.len, own_keepB h.own fun g hg => hq.low g (h.own.lt g hg).2 fun hgs => ?_, h.gen, fun x hx => ⟨(h.ok x hx).tr.fq hq fun b hbs => ?_, (h.ok x hx).len, (h.ok x hx).cap, (h.ok x hx).cap2⟩⟩
  · obtain ⟨cs', hb'⟩ := own_ty h.own hg
    exact Bk.ne_ hb hb' (by decide) (by simp at hgs; exact hgs.symm)
  · exact ⟨189, cs, by rw [show b = s by simpa using hbs]; exact hb, by decide⟩
theorem GenKs.push {l : List (ByteArray × List Fd)} {k : ByteArray × List Fd} (h : GenKs l) (h1 : k.1 = genN l.length) (h2 : 1 ≤ k.2.length) (h3 : k.2.length ≤ 3) (h4 : GenFs k.2) : GenKs (l ++ [k]) := by
  refine ⟨fun i x hx => ?_⟩
  rcases Nat.lt_or_ge i l.length with hi | hi
  · rw [List.getElem?_append_left hi] at hx
    exact h.g i x hx
  · rw [List.getElem?_append_right hi] at hx
    have e : i - l.length = 0 := by
      rcases Nat.eq_zero_or_pos (i - l.length) with h | h
      · exact h
      · rw [List.getElem?_eq_none (by simp; omega)] at hx; cases hx
    rw [e] at hx
    have ek : k = x := by simpa using hx
    subst ek
    rw [show i = l.length by omega]
    exact ⟨h1, h2, h3, h4⟩
theorem GenFs.push {l : List Fd} {f : Fd} (h : GenFs l) (h1 : f.nm = genX l.length) (h2 : GenF f) : GenFs (l ++ [f]) := by
  refine ⟨fun i x hx => ?_⟩
  rcases Nat.lt_or_ge i l.length with hi | hi
  · rw [List.getElem?_append_left hi] at hx
    exact h.g i x hx
  · rw [List.getElem?_append_right hi] at hx
    have e : i - l.length = 0 := by
      rcases Nat.eq_zero_or_pos (i - l.length) with h | h
      · exact h
      · rw [List.getElem?_eq_none (by simp; omega)] at hx; cases hx
    rw [e] at hx
    have ek : f = x := by simpa using hx
    subst ek
    rw [show i = l.length by omega]
    exact ⟨h1, h2⟩
theorem KsI.push {w wr w' : World} {KA KA' : Option Addr} {k kc kc' : Nat} {ks : List Kd} (h : KsI w wr KA k kc ks) (x : Kd) (hx : KdT wr x) (hn : x.nm = genN k) (h1 : 1 ≤ x.fds.length) (h3 : x.fds.length ≤ 3) (h4 : GenFs x.fds)
    (hown : w'.ownsRow w.heap.size 63 2 (.slice KA' (k + 1) kc') (k + 1) (kdCs ks ++ (#[Value.string x.nm, .slice x.A x.n x.c] : Array Value).toList)) {o : Obj} (hg : (wr.alloc o).grownBy w' (Value.slice KA k kc).ownBlock) : KsI w w' KA' (k + 1) kc' (ks ++ [x]) := by
  have hr : ∀ b, (Value.slice KA k kc).ownBlock = some b → ∃ t cs, Bk (wr.alloc o) b t cs ∧ t ≠ 66 := fun b hb => by
    obtain ⟨cs, hb'⟩ := own_ty h.own hb
    exact ⟨63, cs, hb'.alloc _, by decide⟩
  have ht : ∀ y, KdT wr y → KdT w' y := fun y hy => ⟨(hy.tr.below ((Below.refl _ _).alloc (Nat.le_refl _) o)).grown hg hr, hy.len, hy.cap, hy.cap2⟩
  refine ⟨by simp [h.len], ?_, ?_, fun y hy => ?_⟩
  · have e : kdCs (ks ++ [x]) = kdCs ks ++ (#[Value.string x.nm, .slice x.A x.n x.c] : Array Value).toList := by simp [kdCs, Kd.cs]
    rw [e]; exact hown
  · rw [List.map_append]
    refine h.gen.push ?_ h1 h3 h4
    rw [List.length_map, h.len]; exact hn
  · rcases List.mem_append.1 hy with hy | hy
    · exact ht y (h.ok y hy)
    · rw [show y = x by simpa using hy]; exact ht x hx
theorem KsI.done {w wr : World} {KA : Option Addr} {k kc : Nat} {ks : List Kd} (h : KsI w wr KA k kc ks) : KsOk wr wr.heap.size KA ks.length kc ks := by
  have hr := Rd.of_own h.own
  have hc := own_cap2 h.own
  rw [h.len]
  exact ⟨hr, h.len.symm, hc.1, hc.2, fun x hx => ⟨(h.ok x hx).tr.rd, (h.ok x hx).len, (h.ok x hx).cap, (h.ok x hx).cap2⟩, Nat.le_refl _⟩

theorem Bk.set3 {w : World} {g : Nat} {t : TypeId} {x y z : Value} (h : Bk w g t #[x, y, z]) (a b c : Value) : Bk (((w.setCell ⟨g, 0, none⟩ a).setCell ⟨g, 1, none⟩ b).setCell ⟨g, 2, none⟩ c) g t #[a, b, c] := by
  simpa using ((h.set_ 0 a).set_ 1 b).set_ 2 c
theorem StrSt.mv {w w' : World} {B s n : Nat} (h : StrSt w B s) (hb : Below n w w') (hs : s < n) (hB : B ≤ s) : StrSt w' B s := by
  obtain ⟨A, m, c, zs, h1, h2, h3, h4, h5, h6⟩ := h
  exact ⟨A, m, c, zs, h1.below hb hs, h2, h3, h4, h5.below (hb.mono (by omega)), h6⟩
theorem cell_far {X w2 : World} {s : Nat} (hg : X.grownBy w2 (some s)) (b : Nat) (hb : b < X.heap.size) (hne : b ≠ s) (o : Nat) : w2.cell? ⟨b, o, none⟩ = X.cell? ⟨b, o, none⟩ := by
  have h := hg.block b hb (by intro e; injection e with e; exact hne e)
  simp [World.cell?, h]
theorem frozen_far {X w2 : World} {s : Nat} (hg : X.grownBy w2 (some s)) (b : Nat) (hb : b < X.heap.size) (hne : b ≠ s) (o : Nat) : w2.frozen? ⟨b, o, none⟩ = X.frozen? ⟨b, o, none⟩ := by
  have h := hg.block b hb (by intro e; injection e with e; exact hne e)
  simp [World.frozen?, h]
theorem cell_keep {w2 : World} {b o : Nat} {v : Value} (h : w2.cell? ⟨b, o, none⟩ = some v) (ob : Obj) : (w2.alloc ob).cell? ⟨b, o, none⟩ = some v := by
  have hb : b < w2.heap.size := by
    rcases Nat.lt_or_ge b w2.heap.size with hb | hb
    · exact hb
    · simp [World.cell?, Array.getElem?_eq_none hb] at h
  exact (((Below.refl w2.heap.size w2).alloc (Nat.le_refl _) ob).cell (p := ⟨b, o, none⟩) hb).trans h
theorem cell_far2 {X w2 : World} {s : Nat} (hg : X.grownBy w2 (some s)) (b : Nat) (hb : b < X.heap.size) (hne : b ≠ s) (o : Nat) (ob : Obj) : (w2.alloc ob).cell? ⟨b, o, none⟩ = X.cell? ⟨b, o, none⟩ :=
  (((Below.refl w2.heap.size w2).alloc (Nat.le_refl _) ob).cell (p := ⟨b, o, none⟩) (Nat.lt_of_lt_of_le hb hg.size)).trans (cell_far hg b hb hne o)
theorem frozen_far2 {X w2 : World} {s : Nat} (hg : X.grownBy w2 (some s)) (b : Nat) (hb : b < X.heap.size) (hne : b ≠ s) (o : Nat) (c : Array Value) (t : TypeId) : (w2.alloc (.cells c t)).frozen? ⟨b, o, none⟩ = X.frozen? ⟨b, o, none⟩ :=
  (frozen?_alloc_cells w2 c t ⟨b, o, none⟩).trans (frozen_far hg b hb hne o)
theorem Bk.two (w : World) (o : Obj) (t : TypeId) (cs : Array Value) : Bk ((w.alloc o).alloc (.cells cs t)) (w.heap.size + 1) t cs := by simpa using Bk.new (w.alloc o) t cs
set_option maxHeartbeats 4000000 in
theorem kinds_any (s B : Nat) (w : World) (hst : StrSt w B s) (hB : B ≤ s) :
    Calls Try.prog 97 #[.pointer (some ⟨s, 0, none⟩)] w fun e w' => ∃ (A : Option Addr) (c : Nat) (ks : List Kd), e = .returned (.slice A ks.length c) ∧ KsI w w' A ks.length c ks ∧ GenKs (ks.map Kd.p) ∧ 1 ≤ ks.length ∧ ks.length ≤ 4 ∧ StrSt w' B s ∧ Fq [s] w w' := by
  have HST := Lib.hid hst
  have HNX := Lib.hid next_any
  clear hst
  go_enter Try.func97, Try.ntmps97
  go_wp2_with fail
  refine (HNX.out s B 4 w HST.out hB (by omega) (by omega)).mono ?_
  rintro e w1 ⟨v, rfl, hv0, hv1, hst1, hg1⟩
  obtain ⟨K, rfl⟩ : ∃ K : Nat, v = K := ⟨v.toNat, by omega⟩
  have HS1 := Lib.hid hst1
  have HQ1 : Hid (Fq [s] w w1) := Lib.hid (Fq.refl.grown hg1 fun g hg => .inl (by injection hg with hg; simp [hg]))
  clear hst1 hg1
  go_wp2_with fail
  go_loopw [3, 11] (fun kv iv wr => ∃ (k : Nat) (KA : Option Addr) (kc : Nat) (ks : List Kd), k ≤ K + 1 ∧ iv = .int .i64 k ∧ kv = .slice KA k kc ∧ Hid (KsI w wr KA k kc ks) ∧ Hid (StrSt wr B s) ∧ Hid (Fq [s] w wr)) (fun _ iv _ => K + 1 - (intOf iv).toNat)
  case atStart => exact ⟨0, none, 0, [], Nat.zero_le _, rfl, rfl, Lib.hid ⟨rfl, World.ownsRow_nil _ _ _ _, ⟨fun i k h => by simp at h⟩, (fun x hx => by cases hx)⟩, HS1, HQ1⟩
  case round =>
    clear HS1 HQ1
    obtain ⟨k, KA, kc, ks, hk, rfl, rfl, HK, HS, HQ⟩ := hrel
    obtain ⟨wo, rfl⟩ : ∃ x, x = wr := ⟨_, rfl⟩
    by_cases hlt : k < K + 1
    · have hkz : (k : Int) < 1 + K := by omega
      have hk4 : k < 4 := by omega
      obtain ⟨nm, hnm⟩ : ∃ nm, nm = genN k := ⟨_, rfl⟩
      have hge : ∀ h, ([Value.string ⟨#[115, 112, 111, 116]⟩, Value.string ⟨#[108, 105, 102, 101]⟩, Value.string ⟨#[116, 101, 97, 109]⟩, Value.string ⟨#[103, 111, 97, 108]⟩] : List Value)[k]'h = Value.string nm := by
        intro h
        rw [hnm]
        rcases (show k = 0 ∨ k = 1 ∨ k = 2 ∨ k = 3 by omega) with rfl | rfl | rfl | rfl <;> rfl
      have HNM := Lib.hid hnm
      clear hnm
      have hb1 : Below wo.heap.size wo ((wo.alloc (.cells #[.string ⟨#[115, 112, 111, 116]⟩, .string ⟨#[108, 105, 102, 101]⟩, .string ⟨#[116, 101, 97, 109]⟩, .string ⟨#[103, 111, 97, 108]⟩] 9)).alloc (.cells #[.string nm, .slice none 0 0] 63)) := ((Below.refl _ _).alloc (Nat.le_refl _) _).alloc (by simp) _
      have hk1 := Bk.two wo (.cells #[.string ⟨#[115, 112, 111, 116]⟩, .string ⟨#[108, 105, 102, 101]⟩, .string ⟨#[116, 101, 97, 109]⟩, .string ⟨#[103, 111, 97, 108]⟩] 9) 63 #[.string nm, .slice none 0 0]
      have hsl : s < wo.heap.size := by obtain ⟨cs, hb⟩ := HS.out.bk; exact hb.lt
      have hst2 := HS.out.below hb1 (by omega)
      have HB1 := Lib.hid hb1
      have HK1 := Lib.hid hk1
      have HST2 := Lib.hid hst2
      have HSL := Lib.hid hsl
      clear hb1 hk1 hst2 hsl
      go_wp2_with fail
      generalize (wo.alloc (.cells #[.string ⟨#[115, 112, 111, 116]⟩, .string ⟨#[108, 105, 102, 101]⟩, .string ⟨#[116, 101, 97, 109]⟩, .string ⟨#[103, 111, 97, 108]⟩] 9)).alloc (.cells #[.string nm, .slice none 0 0] 63) = W1 at *
      obtain ⟨hx, hhx⟩ : ∃ hx, hx = wo.heap.size + 1 := ⟨_, rfl⟩
      rw [← hhx] at HK1 ⊢
      have HHX := Lib.hid hhx
      clear hhx
      refine (HNX.out s B 3 W1 HST2.out hB (by omega) (by omega)).mono ?_
      rintro e w2 ⟨v, rfl, hv0, hv1, hst3, hg2⟩
      obtain ⟨J, rfl⟩ : ∃ J : Nat, v = J := ⟨v.toNat, by omega⟩
      have hk2 : Bk w2 hx 63 #[.string nm, .slice none 0 0] := HK1.out.grown hg2 (fun e => by injection e with e; have := HSL.out; have := HHX.out; omega)
      have HS2 := Lib.hid hst3
      have HQ2 : Hid (Fq [s] wo w2) := Lib.hid ((Fq.of_below HB1.out).grown hg2 fun g hg => .inl (by injection hg with hg; simp [hg]))
      have HF2 : Hid (([] : List Fd).length = 0 ∧ Bk w2 hx 63 #[.string nm, .slice none 0 0] ∧ w2.ownsRow wo.heap.size 66 3 (.slice none 0 0) 0 (fdCs []) ∧ GenFs []) := Lib.hid ⟨rfl, hk2, World.ownsRow_nil _ _ _ _, ⟨fun i f h => by simp at h⟩⟩
      clear hk2 hst3 hg2 HST2 HB1 HK1 hge
      go_wp2_with fail
      go_loopw [22] (fun iv wx => ∃ (i : Nat) (fA : Option Addr) (fc : Nat) (fds : List Fd), i ≤ J + 1 ∧ iv = .int .i64 i ∧ Hid (fds.length = i ∧ Bk wx hx 63 #[.string nm, .slice fA i fc] ∧ wx.ownsRow wo.heap.size 66 3 (.slice fA i fc) i (fdCs fds) ∧ GenFs fds) ∧ Hid (StrSt wx B s) ∧ Hid (Fq [s] wo wx)) (fun iv _ => J + 1 - (intOf iv).toNat)
      case atStart => exact ⟨0, none, 0, [], Nat.zero_le _, rfl, HF2, HS2, HQ2⟩
      case round =>
        clear HF2 HS2 HQ2
        obtain ⟨i, fA, fc, fds, hi, rfl, HF, HS3, HQ3⟩ := hrel
        by_cases hil : i < J + 1
        · have hiz : (i : Int) < 1 + J := by omega
          have hi3 : i < 3 := by omega
          have hi3z : (i : Int) < 3 := by omega
          obtain ⟨fm, hfm⟩ : ∃ fm, fm = genX i := ⟨_, rfl⟩
          have hge : ∀ h, ([Value.string ⟨#[120]⟩, Value.string ⟨#[121]⟩, Value.string ⟨#[122]⟩] : List Value)[i]'h = Value.string fm := by
            intro h
            rw [hfm]
            rcases (show i = 0 ∨ i = 1 ∨ i = 2 by omega) with rfl | rfl | rfl <;> rfl
          have HFM := Lib.hid hfm
          clear hfm
          have hstA : ∀ wx, Below wr.heap.size wr wx → StrSt wx B s := fun wx hb => HS3.out.below hb (by have := HSL.out; have := HQ3.out.size; omega)
          have HSA := Lib.hid hstA
          clear hstA
          go_wp2_with fail
          go_cut [7] from 25 to 32 (fun bv wx => ∃ (hb v : Nat), bv = .pointer (some ⟨hb, 0, none⟩) ∧ v < 9 ∧ Hid (StrSt wx B s) ∧ Hid (Bk wx hb 66 #[.string fm, .int .i64 (1 + (v : Int)), .int .i64 0]) ∧ Hid (Fq [s] wr wx) ∧ Hid (wr.heap.size ≤ hb))
          case first =>
            rename_i J0 Kp0 A1 A0
            go_region_law
              (go_simp
               go_at_call 98
               (with_reducible refine (HNX.out s B 9 _ (HSA.out _ ?hbel) hB (by omega) (by omega)).mono ?_)
               case hbel => (repeat' first | exact Below.refl _ _ | refine Below.drew ?_ | refine Below.alloc ?_ (by simp) _)
               rintro e w2 ⟨v, rfl, hv0, hv1, hst3, hg2⟩
               try (have q0 := cell_far hg2 wr.heap.size (by first | (simp; done) | (simp; omega)) (by have := HSL.out; have := HQ3.out.size; omega)
                    have q0b := cell_far2 hg2 wr.heap.size (by first | (simp; done) | (simp; omega)) (by have := HSL.out; have := HQ3.out.size; omega)
                    have q1 := frozen_far hg2 wr.heap.size (by first | (simp; done) | (simp; omega)) (by have := HSL.out; have := HQ3.out.size; omega)
                    have q1b := frozen_far2 hg2 wr.heap.size (by first | (simp; done) | (simp; omega)) (by have := HSL.out; have := HQ3.out.size; omega))
               try (have r0 : w2.cell? ⟨wr.heap.size, i, none⟩ = some (.string fm) := (q0 i).trans (by first | (go_simp; done) | (simp; done) | fail)
                    have r1 := fun ob => cell_keep r0 ob)
               try (have q2 := cell_far hg2 (wr.heap.size + 1) (by first | (simp; done) | (simp; omega)) (by have := HSL.out; have := HQ3.out.size; omega)
                    have q2b := cell_far2 hg2 (wr.heap.size + 1) (by first | (simp; done) | (simp; omega)) (by have := HSL.out; have := HQ3.out.size; omega)
                    have q3 := frozen_far hg2 (wr.heap.size + 1) (by first | (simp; done) | (simp; omega)) (by have := HSL.out; have := HQ3.out.size; omega)
                    have q3b := frozen_far2 hg2 (wr.heap.size + 1) (by first | (simp; done) | (simp; omega)) (by have := HSL.out; have := HQ3.out.size; omega))
               try (have r2 : w2.cell? ⟨(wr.heap.size + 1), i, none⟩ = some (.string fm) := (q2 i).trans (by first | (go_simp; done) | (simp; done) | fail)
                    have r3 := fun ob => cell_keep r2 ob))
            all_goals
              refine A0 _ _ (Met.intro (A1 _ _ ?_))
              (repeat apply Exists.intro)
              refine And.intro ?_ rfl
              obtain ⟨V, rfl⟩ : ∃ V : Nat, v = V := ⟨v.toNat, by omega⟩
              have hwr : IntKind.i64.wrap (1 + (V : Int)) = 1 + V := by rw [IntKind.wrap_i64]; omega
              have hgs := hg2.size
              have hsl := HSL.out
              have hs3 := HQ3.out.size
              simp at hgs
              rw [hwr]
              refine ⟨_, V, rfl, by omega, Lib.hid (hst3.mv (n := s + 1) ?_ (by omega) hB), Lib.hid ?_, Lib.hid ?_, Lib.hid (by omega)⟩
              · repeat' (first | exact Below.refl _ _ | refine Below.drew ?_ | refine Below.alloc ?_ (by first | omega | (simp; omega)) _ | refine Below.setCell ?_ (by dsimp only; omega) _)
              · first
                  | exact Bk.new _ _ _
                  | exact (Bk.new _ _ _).alloc _
                  | exact Bk.two _ _ _ _
                  | (refine Bk.set3 (x := .string ⟨#[]⟩) (y := .int .i64 0) (z := .int .i64 0) ?_ _ _ _
                     (try refine Bk.alloc ?_ _)
                     refine Bk.grown ?_ hg2 (by intro e; injection e with e; omega)
                     (repeat' (first | exact Bk.new _ _ _ | exact Bk.two _ _ _ _ | refine Bk.drew ?_ | refine Bk.alloc ?_ _)))
                  | trace_state
              · repeat' (first | exact Fq.refl | refine Fq.drew ?_ | refine Fq.alloc ?_ _ | refine Fq.set ?_ (.inr (by omega)) _ _ | refine Fq.grown ?_ hg2 (fun g hg => .inl (by injection hg with hg; simp [hg])))
          case rest =>
            obtain ⟨hb, v, rfl, hv9, HS4, HB4, HQ4, HH4⟩ := hcut
            have hsb : s + 1 ≤ hb := by have := HSL.out; have := HQ3.out.size; have := HH4.out; omega
            go_wp2_with fail
            refine (HNX.out s B 40 wc HS4.out hB (by omega) (by omega)).mono ?_
            rintro e w4 ⟨v4, rfl, hv40, hv41, hst4, hg4⟩
            have hk4 : Bk w4 hb 66 #[.string fm, .int .i64 (1 + (v : Int)), .int .i64 0] := HB4.out.grown hg4 (by intro e; injection e with e; omega)
            have c42 : w4.cell? ⟨hb, 2, none⟩ = some (.int .i64 0) := hk4.cell 2
            have f42 := hk4.frozen 2
            have hw4 : IntKind.i64.wrap (v4 - 30) = v4 - 30 := by rw [IntKind.wrap_i64]; omega
            have hk5 : Bk (w4.setCell ⟨hb, 2, none⟩ (.int .i64 (v4 - 30))) hb 66 #[.string fm, .int .i64 (1 + (v : Int)), .int .i64 (v4 - 30)] := by simpa using hk4.set_ 2 (.int .i64 (v4 - 30))
            have HS5 := Lib.hid (hst4.mv (n := s + 1) ((Below.refl _ w4).setCell (p := ⟨hb, 2, none⟩) hsb (.int .i64 (v4 - 30))) (by omega) hB)
            have HQ5 := Lib.hid ((HQ4.out.grown hg4 (fun g hg => .inl (by injection hg with hg; simp [hg]))).set (g := hb) (.inr HH4.out) 2 (.int .i64 (v4 - 30)))
            have HB5 := Lib.hid hk5
            clear hk4 hst4 hg4 hk5 HS4 HB4 HQ4
            obtain ⟨i6, hi6, hz60, hz61, hz62⟩ := info_parts T.infoFd
            go_wp2_with fail
            generalize w4.setCell ⟨hb, 2, none⟩ (.int .i64 (v4 - 30)) = W5 at *
            refine (HNX.out s B 8 _ HS5.out hB (by omega) (by omega)).mono ?_
            rintro e w6 ⟨v6, rfl, hv60, hv61, hst6, hg6⟩
            have hk6 : Bk w6 hb 66 #[.string fm, .int .i64 (1 + (v : Int)), .int .i64 (v4 - 30)] := HB5.out.grown hg6 (by intro e; injection e with e; omega)
            have HQ6 := Lib.hid (HQ5.out.grown hg6 (fun g hg => .inl (by injection hg with hg; simp [hg])))
            have HS6 := Lib.hid hst6
            have HB6 := Lib.hid hk6
            clear hk6 hst6 hg6 HS5 HQ5 HB5
            have hi44 : i + 1 ≤ 17592186044416 := by omega
            by_cases h7 : v6 = 7
            · have c61 : w6.cell? ⟨hb, 1, none⟩ = some (.int .i64 (1 + (v : Int))) := HB6.out.cell 1
              have f61 := HB6.out.frozen 1
              have c62 : (w6.setCell ⟨hb, 1, none⟩ (.int .i64 32)).cell? ⟨hb, 2, none⟩ = some (.int .i64 (v4 - 30)) := (HB6.out.set_ 1 (.int .i64 32)).cell 2
              have f62 := (HB6.out.set_ 1 (.int .i64 32)).frozen 2
              have HBZ : Hid (Bk ((w6.setCell ⟨hb, 1, none⟩ (.int .i64 32)).setCell ⟨hb, 2, none⟩ (.int .i64 (-2147483648))) hb 66 #[.string fm, .int .i64 32, .int .i64 (-2147483648)]) := Lib.hid (by simpa using (HB6.out.set_ 1 (.int .i64 32)).set_ 2 (.int .i64 (-2147483648)))
              have HSZ := Lib.hid (HS6.out.mv (n := s + 1) (((Below.refl _ w6).setCell (p := ⟨hb, 1, none⟩) hsb (.int .i64 32)).setCell (p := ⟨hb, 2, none⟩) hsb (.int .i64 (-2147483648))) (by omega) hB)
              have HQZ := Lib.hid ((HQ6.out.set (g := hb) (.inr HH4.out) 1 (.int .i64 32)).set (g := hb) (.inr HH4.out) 2 (.int .i64 (-2147483648)))
              go_upto_region 13 with fail
              generalize (w6.setCell ⟨hb, 1, none⟩ (.int .i64 32)).setCell ⟨hb, 2, none⟩ (.int .i64 (-2147483648)) = W7 at *
              have HBL : Hid (Bk W7 hb 66 #[.string fm, .int .i64 32, .int .i64 (-2147483648)]) := Lib.hid HBZ.out
              have y0 : W7.cell? ⟨hb, 0, none⟩ = some (.string fm) := HBL.out.cell 0
              have y1 : W7.cell? ⟨hb, 1, none⟩ = some (.int .i64 32) := HBL.out.cell 1
              have y2 : W7.cell? ⟨hb, 2, none⟩ = some (.int .i64 (-2147483648)) := HBL.out.cell 2
              have hxs : hx ≠ s := by have := HSL.out; have := HHX.out; omega
              have hkx : Bk W7 hx 63 #[.string nm, .slice fA i fc] := (HQZ.out.low hx HF.out.2.1.lt (by simpa using hxs)).trans HF.out.2.1
              have y3 : W7.cell? ⟨hx, 1, none⟩ = some (.slice fA i fc) := hkx.cell 1
              have hownZ : W7.ownsRow wo.heap.size 66 3 (.slice fA i fc) i (fdCs fds) := own_keepB HF.out.2.2.1 fun g hg => HQZ.out.low g (HF.out.2.2.1.lt g hg).2 (by have := (HF.out.2.2.1.lt g hg).1; have := HSL.out; simp; omega)
              have HOZ := Lib.hid hownZ
              have HKX := Lib.hid hkx
              have hrow : ∀ g, (Value.slice fA i fc).ownBlock = some g → wo.heap.size ≤ g := fun g hg => (HOZ.out.lt g hg).1
              have hxr : some hx ≠ (Value.slice fA i fc).ownBlock := fun e => by
                obtain ⟨cs, hc⟩ := own_ty HOZ.out e.symm
                exact Bk.ne_ HKX.out hc (by decide) rfl
              have HROW := Lib.hid hrow
              have HXR := Lib.hid hxr
              have hszw : wo.heap.size ≤ W7.heap.size := Nat.le_trans HQ3.out.size HQZ.out.size
              clear hkx hownZ hrow hxr
              go_wp2_with
                (at_builtin
                 go_must (refine wpList_append_one _ rfl (.tmp 43) (.tmp 45) _ rfl wo.heap.size 66 i6 (.agg #[.string ByteArray.empty, .int .i64 0, .int .i64 0]) 3 32 Try.underlying61 hi6 hz60 hz61 hz62 rfl (by decide) (.slice fA i fc) i (fdCs fds) rfl (HOZ.out.alloc _) W7.heap.size 1 66 #[.string fm, .int .i64 32, .int .i64 (-2147483648)] rfl (Bk.new _ _ _) rfl ?c1 (i + 1) rfl ?c2 ?c3 ?c4 ?_)
                 case c1 => simp [Value.oneCell']
                 case c2 => unfold maxLen; omega
                 case c3 => omega
                 case c4 => (simp; omega)
                 intro g8 c8 w8 hown8 hg8 hat8
                 have hk8 : Bk w8 hx 63 #[.string nm, .slice fA i fc] := (HKX.out.alloc _).grown hg8 HXR.out
                 have c81 : w8.cell? ⟨hx, 1, none⟩ = some (.slice fA i fc) := hk8.cell 1
                 have f81 := hk8.frozen 1
                 have HK8 := Lib.hid hk8
                 have HO8 := Lib.hid hown8
                 have HG8 := Lib.hid hg8
                 clear hk8 hown8 hg8 hat8)
              have hk9 : Bk (w8.setCell ⟨hx, 1, none⟩ (.slice (some ⟨g8, 0, none⟩) (i + 1) c8)) hx 63 #[.string nm, .slice (some ⟨g8, 0, none⟩) (i + 1) c8] := by simpa using HK8.out.set_ 1 (.slice (some ⟨g8, 0, none⟩) (i + 1) c8)
              have hown9 : (w8.setCell ⟨hx, 1, none⟩ (.slice (some ⟨g8, 0, none⟩) (i + 1) c8)).ownsRow wo.heap.size 66 3 (.slice (some ⟨g8, 0, none⟩) (i + 1) c8) (i + 1) (fdCs (fds ++ [⟨fm, 32, (-2147483648)⟩])) := by
                have e : fdCs (fds ++ [⟨fm, 32, (-2147483648)⟩]) = fdCs fds ++ (#[Value.string fm, .int .i64 32, .int .i64 (-2147483648)] : Array Value).toList := by simp [fdCs, Fd.cs]
                rw [e]
                refine own_keepB HO8.out fun g hg => Below.heap_setCell _ _ _ _ ?_
                obtain ⟨cs, hc⟩ := own_ty HO8.out hg
                exact Bk.ne_ hc HK8.out (by decide)
              have hxo : wo.heap.size ≤ hx := by have := HHX.out; omega
              have HF9 := Lib.hid (And.intro (show (fds ++ [(⟨fm, 32, (-2147483648)⟩ : Fd)]).length = i + 1 by simp [HF.out.1]) (And.intro hk9 (And.intro hown9 (HF.out.2.2.2.push (f := ⟨fm, 32, (-2147483648)⟩) (by rw [HF.out.1]; exact HFM.out) ⟨.inr ⟨rfl, rfl⟩⟩))))
              have HS9 := Lib.hid (HSZ.out.mv ((((Below.refl (s + 1) W7).alloc (by have := HSL.out; omega) (.cells #[.string fm, .int .i64 32, .int .i64 (-2147483648)] 66)).grown HG8.out (by have := HSL.out; simp; omega) (fun g hg => by have := HROW.out g hg; have := HSL.out; omega)).setCell (p := ⟨hx, 1, none⟩) (by have := HSL.out; dsimp only; omega) (.slice (some ⟨g8, 0, none⟩) (i + 1) c8)) (by omega) hB)
              have HQ9 := Lib.hid ((((HQ3.out.trans HQZ.out (SubF.refl _ _)).alloc (.cells #[.string fm, .int .i64 32, .int .i64 (-2147483648)] 66)).grown HG8.out (fun g hg => .inr (HROW.out g hg))).set (g := hx) (.inr hxo) 1 (.slice (some ⟨g8, 0, none⟩) (i + 1) c8))
              go_wp2_with fail
              go_roundw
              case rel => exact ⟨i + 1, _, c8, fds ++ [⟨fm, 32, (-2147483648)⟩], by omega, by go_num, HF9, HS9, HQ9⟩
              case measure => simp [intOf]; omega
            · have HBZ := HB6
              have HSZ := HS6
              have HQZ := HQ6
              go_upto_region 13 with fail
              generalize hlw : v4 - 30 = lw at *
              have HBL : Hid (Bk w6 hb 66 #[.string fm, .int .i64 (1 + (v : Int)), .int .i64 lw]) := Lib.hid HBZ.out
              have y0 : w6.cell? ⟨hb, 0, none⟩ = some (.string fm) := HBL.out.cell 0
              have y1 : w6.cell? ⟨hb, 1, none⟩ = some (.int .i64 (1 + (v : Int))) := HBL.out.cell 1
              have y2 : w6.cell? ⟨hb, 2, none⟩ = some (.int .i64 lw) := HBL.out.cell 2
              have hxs : hx ≠ s := by have := HSL.out; have := HHX.out; omega
              have hkx : Bk w6 hx 63 #[.string nm, .slice fA i fc] := (HQZ.out.low hx HF.out.2.1.lt (by simpa using hxs)).trans HF.out.2.1
              have y3 : w6.cell? ⟨hx, 1, none⟩ = some (.slice fA i fc) := hkx.cell 1
              have hownZ : w6.ownsRow wo.heap.size 66 3 (.slice fA i fc) i (fdCs fds) := own_keepB HF.out.2.2.1 fun g hg => HQZ.out.low g (HF.out.2.2.1.lt g hg).2 (by have := (HF.out.2.2.1.lt g hg).1; have := HSL.out; simp; omega)
              have HOZ := Lib.hid hownZ
              have HKX := Lib.hid hkx
              have hrow : ∀ g, (Value.slice fA i fc).ownBlock = some g → wo.heap.size ≤ g := fun g hg => (HOZ.out.lt g hg).1
              have hxr : some hx ≠ (Value.slice fA i fc).ownBlock := fun e => by
                obtain ⟨cs, hc⟩ := own_ty HOZ.out e.symm
                exact Bk.ne_ HKX.out hc (by decide) rfl
              have HROW := Lib.hid hrow
              have HXR := Lib.hid hxr
              have hszw : wo.heap.size ≤ w6.heap.size := Nat.le_trans HQ3.out.size HQZ.out.size
              clear hkx hownZ hrow hxr
              go_wp2_with
                (at_builtin
                 go_must (refine wpList_append_one _ rfl (.tmp 43) (.tmp 45) _ rfl wo.heap.size 66 i6 (.agg #[.string ByteArray.empty, .int .i64 0, .int .i64 0]) 3 32 Try.underlying61 hi6 hz60 hz61 hz62 rfl (by decide) (.slice fA i fc) i (fdCs fds) rfl (HOZ.out.alloc _) w6.heap.size 1 66 #[.string fm, .int .i64 (1 + (v : Int)), .int .i64 lw] rfl (Bk.new _ _ _) rfl ?c1 (i + 1) rfl ?c2 ?c3 ?c4 ?_)
                 case c1 => simp [Value.oneCell']
                 case c2 => unfold maxLen; omega
                 case c3 => omega
                 case c4 => (simp; omega)
                 intro g8 c8 w8 hown8 hg8 hat8
                 have hk8 : Bk w8 hx 63 #[.string nm, .slice fA i fc] := (HKX.out.alloc _).grown hg8 HXR.out
                 have c81 : w8.cell? ⟨hx, 1, none⟩ = some (.slice fA i fc) := hk8.cell 1
                 have f81 := hk8.frozen 1
                 have HK8 := Lib.hid hk8
                 have HO8 := Lib.hid hown8
                 have HG8 := Lib.hid hg8
                 clear hk8 hown8 hg8 hat8)
              have hk9 : Bk (w8.setCell ⟨hx, 1, none⟩ (.slice (some ⟨g8, 0, none⟩) (i + 1) c8)) hx 63 #[.string nm, .slice (some ⟨g8, 0, none⟩) (i + 1) c8] := by simpa using HK8.out.set_ 1 (.slice (some ⟨g8, 0, none⟩) (i + 1) c8)
              have hown9 : (w8.setCell ⟨hx, 1, none⟩ (.slice (some ⟨g8, 0, none⟩) (i + 1) c8)).ownsRow wo.heap.size 66 3 (.slice (some ⟨g8, 0, none⟩) (i + 1) c8) (i + 1) (fdCs (fds ++ [⟨fm, (1 + (v : Int)), lw⟩])) := by
                have e : fdCs (fds ++ [⟨fm, (1 + (v : Int)), lw⟩]) = fdCs fds ++ (#[Value.string fm, .int .i64 (1 + (v : Int)), .int .i64 lw] : Array Value).toList := by simp [fdCs, Fd.cs]
                rw [e]
                refine own_keepB HO8.out fun g hg => Below.heap_setCell _ _ _ _ ?_
                obtain ⟨cs, hc⟩ := own_ty HO8.out hg
                exact Bk.ne_ hc HK8.out (by decide)
              have hxo : wo.heap.size ≤ hx := by have := HHX.out; omega
              have HF9 := Lib.hid (And.intro (show (fds ++ [(⟨fm, (1 + (v : Int)), lw⟩ : Fd)]).length = i + 1 by simp [HF.out.1]) (And.intro hk9 (And.intro hown9 (HF.out.2.2.2.push (f := ⟨fm, (1 + (v : Int)), lw⟩) (by rw [HF.out.1]; exact HFM.out) ⟨.inl ⟨by dsimp only; omega, by dsimp only; omega, by dsimp only; omega, by dsimp only; omega⟩⟩))))
              have HS9 := Lib.hid (HSZ.out.mv ((((Below.refl (s + 1) w6).alloc (by have := HSL.out; omega) (.cells #[.string fm, .int .i64 (1 + (v : Int)), .int .i64 lw] 66)).grown HG8.out (by have := HSL.out; simp; omega) (fun g hg => by have := HROW.out g hg; have := HSL.out; omega)).setCell (p := ⟨hx, 1, none⟩) (by have := HSL.out; dsimp only; omega) (.slice (some ⟨g8, 0, none⟩) (i + 1) c8)) (by omega) hB)
              have HQ9 := Lib.hid ((((HQ3.out.trans HQZ.out (SubF.refl _ _)).alloc (.cells #[.string fm, .int .i64 (1 + (v : Int)), .int .i64 lw] 66)).grown HG8.out (fun g hg => .inr (HROW.out g hg))).set (g := hx) (.inr hxo) 1 (.slice (some ⟨g8, 0, none⟩) (i + 1) c8))
              go_wp2_with fail
              go_roundw
              case rel => exact ⟨i + 1, _, c8, fds ++ [⟨fm, (1 + (v : Int)), lw⟩], by omega, by go_num, HF9, HS9, HQ9⟩
              case measure => simp [intOf]; omega
        · obtain rfl : i = J + 1 := by omega
          have x0 : wr.cell? ⟨hx, 0, none⟩ = some (.string nm) := HF.out.2.1.cell 0
          have x1 : wr.cell? ⟨hx, 1, none⟩ = some (.slice fA (J + 1 : Nat) fc) := HF.out.2.1.cell 1
          obtain ⟨i0, hi0, hz0, hz1, hz2⟩ := info_parts T.infoKd
          have HKR := Lib.hid (HK.out.fq HQ3.out HS.out)
          have hsz3 := HQ3.out.size
          have hszw := HQ.out.size
          have hk44 : k + 1 ≤ 17592186044416 := by omega
          go_wp2_with
            (at_builtin
             go_must (refine wpList_append_one _ rfl (.tmp 49) (.tmp 51) _ rfl w.heap.size 63 i0 (.agg #[.string ByteArray.empty, .slice none 0 0]) 2 40 Try.underlying22 hi0 hz0 hz1 hz2 rfl (by decide) (.slice KA k kc) k _ rfl (HKR.out.own.alloc _) wr.heap.size 1 63 #[.string nm, .slice fA (J + 1) fc] rfl (Bk.new _ _ _) rfl ?c1 (k + 1) rfl ?c2 ?c3 ?c4 ?_)
             case c1 => simp [Value.oneCell']
             case c2 => unfold maxLen; omega
             case c3 => omega
             case c4 => (simp; omega)
             intro gN cN w6 hown6 hgr6 hat6)
          have hcp := own_cap2 HF.out.2.2.1
          have HKN := Lib.hid (HKR.out.push ⟨nm, fA, J + 1, fc, fds⟩ ⟨Tr.of_own HF.out.2.2.1, HF.out.1.symm, hcp.1, hcp.2⟩ HNM.out (by have := HF.out.1; simp; omega) (by have := HF.out.1; simp; omega) HF.out.2.2.2 hown6 hgr6)
          have hrow : ∀ b, (Value.slice KA k kc).ownBlock = some b → w.heap.size ≤ b := fun b hb => (HKR.out.own.lt b hb).1
          have HSN : Hid (StrSt w6 B s) := Lib.hid (HS3.out.mv (((Below.refl w.heap.size wr).alloc (by omega) _).grown hgr6 (by simp; omega) hrow) (by obtain ⟨cs, hb⟩ := HST.out.bk; exact hb.lt) hB)
          have HQN : Hid (Fq [s] w w6) := Lib.hid (((HQ.out.trans HQ3.out (SubF.refl _ _)).alloc _).grown hgr6 fun b hb => .inr (hrow b hb))
          go_wp2_with fail
          go_roundw
          case rel => exact ⟨k + 1, _, cN, ks ++ [⟨nm, fA, J + 1, fc, fds⟩], by omega, by go_num, rfl, HKN, HSN, HQN⟩
          case measure => simp [intOf]; omega
    · obtain rfl : k = K + 1 := by omega
      go_wp2_with fail
      go_ret
      exact ⟨KA, kc, ks, by rw [HK.out.len]; rfl, (by rw [HK.out.len]; exact HK.out), HK.out.gen, by rw [HK.out.len]; omega, by rw [HK.out.len]; omega, HS.out, HQ.out⟩
end Go.Proofs.Ytnidcmhfbkdioaa
