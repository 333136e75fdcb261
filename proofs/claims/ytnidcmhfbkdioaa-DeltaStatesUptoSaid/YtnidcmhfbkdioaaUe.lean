/-
  Reading bits and numbers; delta.Back; what delta.Ints wrote, delta.Back reads. Conditions: what is read can be read; numbers that fit.
-/
import Derived.Test.YtnidcmhfbkdioaaUb
namespace Go.Proofs.Ytnidcmhfbkdioaa
open Go.RowKit
set_option maxRecDepth 100000

/-! ### Uc -/
/-- Bit i of bytes. -/
def bitAt (l : List Nat) (i : Nat) : Bool := (l.getD (i / 8) 0).testBit (i % 8)
/-- The number of n bits from bit p on. -/
def valAt (l : List Nat) (p : Nat) : Nat → Nat
  | 0 => 0
  | n + 1 => valAt l p n + (bitAt l (p + n)).toNat * 2 ^ n
theorem valAt_lt (l : List Nat) (p n : Nat) : valAt l p n < 2 ^ n := by
  induction n with
  | zero => simp [valAt]
  | succ n ih =>
    have : (bitAt l (p + n)).toNat ≤ 1 := Bool.toNat_le _
    have h2 : (bitAt l (p + n)).toNat * 2 ^ n ≤ 1 * 2 ^ n := Nat.mul_le_mul_right _ this
    simp only [valAt]; rw [Nat.pow_succ]; omega
theorem valAt_or (l : List Nat) (p n : Nat) : valAt l p n ||| (bitAt l (p + n)).toNat * 2 ^ n = valAt l p (n + 1) := by
  have := valAt_lt l p n
  rw [Nat.or_comm, Nat.mul_comm, ← Nat.two_pow_add_eq_or_of_lt this, Nat.add_comm, Nat.mul_comm]; rfl

/-- A reader at block g of the bytes l, at bit p. -/
def RdrSt (w : World) (base g : Nat) (l : List Nat) (p : Nat) : Prop :=
  ∃ A c, Bk w g 325 #[.slice A l.length c, .int .i64 p] ∧ w.ownsRow base 5 1 (.slice A l.length c) l.length (bytesV l) ∧ base ≤ w.heap.size

theorem RdrSt.grow {w w' : World} {base g g' : Nat} {l : List Nat} {p : Nat} (h : RdrSt w base g l p) (hb : w.grownBy w' (some g')) (hne : g ≠ g') (ht : ∃ t cs, Bk w g' t cs ∧ t ≠ 5) : RdrSt w' base g l p := by
  obtain ⟨A, c, h1, h2, h3⟩ := h
  obtain ⟨t, cs, hk, h5⟩ := ht
  exact ⟨A, c, h1.grown hb (by simp [hne]), h2.kept hb (.inr (own_ne h2 hk (Ne.symm h5))), by have := hb.size; omega⟩

def NewPost (w : World) (l : List Nat) (e : Ending) (w' : World) : Prop := ∃ g, e = .returned (.pointer (some ⟨g, 0, none⟩)) ∧ w.heap.size ≤ g ∧ RdrSt w' w.heap.size g l 0 ∧ Below w.heap.size w w'

set_option maxHeartbeats 800000 in
theorem new_any (A : Option Addr) (n c B : Nat) (l : List Nat) (w : World) (hn : n = l.length) (hr : Rd w B 1 A n (bytesV l)) (hs : n ≤ 140737488355328) :
    Calls Try.prog 187 #[.slice A n c] w (NewPost w l) := by
  obtain ⟨i0, hi0, hz0, hz1, hz2⟩ := info_parts T.info5
  go_enter Try.func187, Try.ntmps187
  go_wp2_with
    (at_builtin
     go_must (refine wpList_append_rd _ rfl (.const (.slice none 0 0)) (.tmp 3) _ rfl w.heap.size 5 i0 (.int .u8 0) 1 1 Try.underlying81 hi0 hz0 hz1 hz2 rfl (by decide) (.slice none 0 0) 0 [] rfl (World.ownsRow_nil _ _ _ _) B A n c (bytesV l) rfl hr (bytesV_one _) ?c2 ?c3 (Nat.le_refl _) ?_)
     case c2 => unfold maxLen; omega
     case c3 => omega
     intro A' c' w1 hown1 hg1 hat1)
  go_ret
  simp only [Nat.zero_add, List.nil_append] at hown1
  have hb1 : Below w.heap.size w w1 := (Below.refl _ _).grown hg1 (Nat.le_refl _) (by simp [Value.ownBlock])
  have hsz := hb1.size
  subst hn
  refine ⟨w1.heap.size, rfl, hsz, ⟨A', c', ?_, hown1.alloc _, by simp; omega⟩, hb1.alloc hsz _⟩
  have := Bk.new w1 325 #[.slice A' l.length c', .int .i64 0]
  simpa using this

set_option maxHeartbeats 800000 in
theorem left_any (g base : Nat) (l : List Nat) (p : Nat) (w : World) (hst : RdrSt w base g l p) (hp : p ≤ 8 * l.length) (hs : l.length ≤ 140737488355328) :
    Calls Try.prog 219 #[.pointer (some ⟨g, 0, none⟩)] w fun e w' => e = .returned (.int .i64 (8 * l.length - p)) ∧ ∃ n, w.drewN n = w' := by
  obtain ⟨A, c, hk, hown, hb⟩ := hst
  have c0 : w.cell? ⟨g, 0, none⟩ = some (.slice A l.length c) := hk.cell 0
  have c1 : w.cell? ⟨g, 1, none⟩ = some (.int .i64 p) := hk.cell 1
  clear hk hown
  go_enter Try.func219, Try.ntmps219
  go_wp2_with fail
  go_quiet (fail)
  go_wp2_with fail
  go_ret
  exact ⟨rfl, _, rfl⟩

def GetPost (w : World) (base g : Nat) (l : List Nat) (p n : Nat) (e : Ending) (w' : World) : Prop :=
  (p + n ≤ 8 * l.length ∧ e = .returned (.tuple #[.int .u64 (valAt l p n), .int .i64 0]) ∧ RdrSt w' base g l (p + n) ∧ w.grownBy w' (some g) ∧ w'.heap.size = w.heap.size) ∨
  (¬ p + n ≤ 8 * l.length ∧ e = .returned (.tuple #[.int .u64 0, .int .i64 14]) ∧ RdrSt w' base g l p ∧ w.grownBy w' (some g) ∧ w'.heap.size = w.heap.size)

theorem RdrSt.drewN {w : World} {base g : Nat} {l : List Nat} {p : Nat} (h : RdrSt w base g l p) (n : Nat) : RdrSt (w.drewN n) base g l p := h
theorem RdrSt.drew {w : World} {base g : Nat} {l : List Nat} {p : Nat} (h : RdrSt w base g l p) : RdrSt w.drew base g l p := h

theorem or_round (l : List Nat) (p k x : Nat) (hx : x = l.getD ((p + k) / 8) 0) (hx2 : x < 256) (hk : k < 64) :
    Go.bits .or .u64 ((valAt l p k : Nat) : Int) (IntKind.u64.wrap (IntKind.u64.wrap (Go.bits .and .u8 ((x : Int) / 2 ^ ((p + k) % 8)) 1) * 2 ^ k)) = ((valAt l p (k + 1) : Nat) : Int) := by
  have h1 : ((x : Int) / 2 ^ ((p + k) % 8)) = ((x / 2 ^ ((p + k) % 8) : Nat) : Int) := by norm_cast
  have h2 : x / 2 ^ ((p + k) % 8) < 256 := Nat.lt_of_le_of_lt (Nat.div_le_self _ _) hx2
  have h3 : Go.bits .and .u8 ((x : Int) / 2 ^ ((p + k) % 8)) 1 = ((bitAt l (p + k)).toNat : Int) := by
    rw [h1, show (1 : Int) = ((1 : Nat) : Int) from rfl, u8_and_nat _ _ h2 (by omega), nat_mask1]
    congr 1
    unfold bitAt
    rw [← hx, Nat.testBit_eq_decide_div_mod_eq]
    rcases Nat.mod_two_eq_zero_or_one (x / 2 ^ ((p + k) % 8)) with h | h <;> simp [h]
  have hbit : (bitAt l (p + k)).toNat ≤ 1 := Bool.toNat_le _
  have hpow : (bitAt l (p + k)).toNat * 2 ^ k ≤ 1 * 2 ^ k := Nat.mul_le_mul_right _ hbit
  have hp63 : 2 ^ k ≤ 2 ^ 63 := Nat.pow_le_pow_right (by omega) (by omega)
  have hv := valAt_lt l p k
  have h64 : (2 : Nat) ^ 63 = 9223372036854775808 := by decide
  rw [h3, IntWalk.u64_in ((bitAt l (p + k)).toNat : Int) (by omega)]
  have e2 : ((bitAt l (p + k)).toNat : Int) * 2 ^ k = (((bitAt l (p + k)).toNat * 2 ^ k : Nat) : Int) := by norm_cast
  rw [e2, IntWalk.u64_in _ (by omega), u64_or_nat _ _ (by omega) (by omega), valAt_or]

theorem ret_pt {k : IntKind} {a b : Int} (h : a = b) : Value.int k a = .int k b := by rw [h]

set_option maxHeartbeats 1600000 in
theorem get_any (g base : Nat) (l : List Nat) (p n : Nat) (w : World) (hst : RdrSt w base g l p) (hp : p ≤ 8 * l.length) (hn : n ≤ 64) (hs : l.length ≤ 140737488355328) (hb : ∀ b ∈ l, b < 256) :
    Calls Try.prog 188 #[.pointer (some ⟨g, 0, none⟩), .int .i64 n] w (GetPost w base g l p n) := by
  have HL := Lib.hid (left_any g base l p w hst hp hs)
  by_cases hfit : p + n ≤ 8 * l.length
  · have hlt : ¬ (8 * (l.length : Int) - p < n) := by omega
    have HFit := Lib.hid hfit
    have HB := Lib.hid hb
    have hn64 : (n : Int) ≤ 64 := by omega
    clear hfit hb
    go_enter Try.func188, Try.ntmps188
    go_wp2_with fail
    refine HL.out.mono ?_
    rintro e w1 ⟨rfl, nq, rfl⟩
    go_wp2_with fail
    have hst1 := hst.drewN nq
    have hg1 : w.grownBy (w.drewN nq) (some g) := Gb.drewN (World.grownBy.refl w _) nq
    have hz1 : (w.drewN nq).heap.size = w.heap.size := rfl
    have HZ1 := Lib.hid hz1
    clear hz1
    generalize w.drewN nq = w1 at *
    go_loopw [6, 19] (fun v i wr => ∃ k : Nat, k ≤ n ∧ v = .int .u64 (valAt l p k) ∧ i = .int .i64 k ∧ RdrSt wr base g l (p + k) ∧ w.grownBy wr (some g) ∧ wr.heap.size = w.heap.size) (fun _ i _ => n - (intOf i).toNat)
    case atStart => exact ⟨0, Nat.zero_le _, rfl, rfl, hst1, hg1, HZ1.out⟩
    case round =>
      obtain ⟨k, hk, rfl, rfl, ⟨A, c, hbk, hown, hbase⟩, hgr, hzr⟩ := hrel
      have HZ := Lib.hid hzr
      clear hzr
      by_cases hlt2 : k < n
      · have c0 : wr.cell? ⟨g, 0, none⟩ = some (.slice A l.length c) := hbk.cell 0
        have c1 : wr.cell? ⟨g, 1, none⟩ = some (.int .i64 ((p : Int) + k)) := (hbk.cell 1).trans (by simp)
        have f1 := hbk.frozen 1
        have hfit := HFit.out
        have hj : (p + k) / 8 < l.length := by omega
        obtain ⟨gb, cb, hv, _, _⟩ := hown.form (by omega)
        have hA : A = some ⟨gb, 0, none⟩ := by injection hv
        subst hA
        obtain ⟨x, hx⟩ : ∃ x, x = l.getD ((p + k) / 8) 0 := ⟨_, rfl⟩
        have q2 : wr.cell? ⟨gb, (p + k) / 8, none⟩ = some (.int .u8 x) := by
          rw [hown.cellAt _ (by omega), bytesV_get _ _ hj, hx]
        have hx256 : x < 256 := by
          rw [hx, List.getD_eq_getElem?_getD, List.getElem?_eq_getElem hj]
          exact HB.out _ (List.getElem_mem _)
        have HX := Lib.hid hx
        have hne1 : g ≠ gb := Ne.symm (fun e1 => own_ne hown hbk (by decide) (by simp [Value.ownBlock, e1]))
        have hb1 : ((p : Int) + k) / 8 < (l.length : Int) := by omega
        have hb2 : (((p : Int) + k) / 8).toNat = (p + k) / 8 := by omega
        have hb0 : 0 ≤ ((p : Int) + k) / 8 := by omega
        have hb3 : (((p : Int) + k) % 8).toNat = (p + k) % 8 := by omega
        clear hx hv hfit
        go_wp2_with fail
        go_quiet (fail)
        go_wp2_with fail
        go_roundw
        case measure => simp [intOf]; omega
        case rel =>
          refine ⟨k + 1, by omega, ret_pt (or_round l p k x HX.out hx256 (by omega)), by go_num, ?_, ?_, ?_⟩
          · refine ⟨some ⟨gb, 0, none⟩, c, ?_, ?_, ?_⟩
            · have h1 := hbk.set_ 1 (.int .i64 ((p : Int) + k + 1))
              have e1 : (((p + (k + 1) : Nat)) : Int) = (p : Int) + k + 1 := by omega
              rw [e1]
              exact h1
            · exact ownsRow_setCell_other hown (a := ⟨g, 1, none⟩) (own_ne hown hbk (by decide)) _
            · show base ≤ (World.setCell _ _ _).heap.size; simpa [World.setCell] using hbase
          · exact Gb.set_ (Gb.drewN hgr _) 1 _
          · show (World.setCell _ _ _).heap.size = _; rw [← HZ.out]; simp [World.setCell]
      · go_wp2
        go_ret2
        obtain rfl : k = n := by omega
        exact .inl ⟨HFit.out, rfl, ⟨A, c, hbk, hown, hbase⟩, hgr, HZ.out⟩
  · have hlt : (8 * (l.length : Int) - p < n) := by omega
    have HFit := Lib.hid hfit
    have hn64 : (n : Int) ≤ 64 := by omega
    clear hfit hb
    go_enter Try.func188, Try.ntmps188
    go_wp2_with fail
    refine HL.out.mono ?_
    rintro e w1 ⟨rfl, nq, rfl⟩
    go_wp2_with fail
    go_ret2
    exact .inr ⟨HFit.out, rfl, hst.drewN nq, Gb.drewN (World.grownBy.refl w _) nq, rfl⟩
theorem RdrSt.below {w w' : World} {base g : Nat} {l : List Nat} {p : Nat} (h : RdrSt w base g l p) (hb : Below w.heap.size w w') : RdrSt w' base g l p := by
  obtain ⟨A, c, h1, h2, h3⟩ := h
  exact ⟨A, c, h1.below hb h1.lt, h2.kept (row := none) ⟨hb.os, hb.tape, hb.output, hb.size, fun k hk _ => hb.block k hk⟩ (by cases hv : (Value.slice A l.length c).ownBlock <;> simp), by have := hb.size; omega⟩
theorem RdrSt.bk {w : World} {base g : Nat} {l : List Nat} {p : Nat} (h : RdrSt w base g l p) : ∃ cs, Bk w g 325 cs := by obtain ⟨A, c, h1, _⟩ := h; exact ⟨_, h1⟩

/-- Reads a number: its error, its value, where the reader then stands. -/
def rdN (l : List Nat) (p0 : Nat) : Nat → Nat → Nat → Nat → Int × Nat × Nat
  | 0, _, _, _ => (3, 0, p0)
  | f + 1, i, v, p =>
    if 8 * l.length < p + 5 then (14, 0, p0)
    else if i = 16 ∨ (valAt l p 5 = 0 ∧ 0 < i) then (3, 0, p0)
    else if valAt l p 5 < 16 then (0, v + valAt l p 5 % 16 * 16 ^ i, p + 5) else rdN l p0 f (i + 1) (v + valAt l p 5 % 16 * 16 ^ i) (p + 5)
def rdNat (l : List Nat) (p : Nat) : Int × Nat × Nat := rdN l p 17 0 0 p

def RNPost (w : World) (base g : Nat) (l : List Nat) (p : Nat) (e : Ending) (w' : World) : Prop :=
  e = .returned (.tuple #[.int .u64 (rdNat l p).2.1, .int .i64 (rdNat l p).1]) ∧ RdrSt w' base g l (rdNat l p).2.2 ∧ (rdNat l p).2.2 ≤ 8 * l.length ∧ w.grownBy w' (some g) ∧ w'.heap.size = w.heap.size

theorem RdrSt.pos {w : World} {base g p : Nat} {l : List Nat} (h : RdrSt w base g l p) (q : Nat) : RdrSt (w.setCell ⟨g, 1, none⟩ (.int .i64 q)) base g l q := by
  obtain ⟨A, c, h1, h2, h3⟩ := h
  exact ⟨A, c, h1.set_ 1 (.int .i64 q), own_farU h2 h1 (by decide) 1 _, by simpa [World.setCell] using h3⟩
theorem beq_nat {a b : Nat} (h : ((a : Int) == (b : Int)) = true) : a = b := by
  have : (a : Int) = (b : Int) := by simpa using h
  omega
theorem rd_or (v gv i : Nat) (hv : v < 16 ^ i) (hi : i < 16) : Go.bits .or .u64 (v : Int) (IntKind.u64.wrap (Go.bits .and .u64 (gv : Int) 15 * 2 ^ (4 * i))) = ((v + gv % 16 * 16 ^ i : Nat) : Int) ∨ ¬ gv < 32 := by
  by_cases hg : gv < 32
  · left
    have hp : 16 ^ i ≤ 16 ^ 15 := Nat.pow_le_pow_right (by omega) (by omega)
    have h15 : (16 : Nat) ^ 15 = 1152921504606846976 := by decide
    have h1 : gv % 16 * 16 ^ i ≤ 15 * 16 ^ i := Nat.mul_le_mul_right _ (by omega)
    rw [show (15 : Int) = ((15 : Nat) : Int) from rfl, bvand _ _ (by omega) (by omega), show gv &&& 15 = gv % 16 from Nat.and_two_pow_sub_one_eq_mod _ 4]
    have e1 : ((gv % 16 : Nat) : Int) * 2 ^ (4 * i) = ((gv % 16 * 16 ^ i : Nat) : Int) := by rw [pow16]; norm_cast
    rw [e1, IntWalk.u64_in _ (by omega), bvor _ _ (by omega) (by omega)]
    congr 1
    rw [Nat.or_comm, Nat.mul_comm, pow16, ← Nat.two_pow_add_eq_or_of_lt (by rw [← pow16]; exact hv), Nat.add_comm]
  · right; exact hg

set_option maxHeartbeats 1600000 in
theorem rnat_any (g base : Nat) (l : List Nat) (p : Nat) (w : World) (hst : RdrSt w base g l p) (hp : p ≤ 8 * l.length) (hs : l.length ≤ 140737488355328) (hb : ∀ b ∈ l, b < 256) :
    Calls Try.prog 220 #[.pointer (some ⟨g, 0, none⟩)] w (RNPost w base g l p) := by
  have hc1 : w.cell? ⟨g, 1, none⟩ = some (.int .i64 p) := by
    obtain ⟨A, c, h1, _⟩ := hst
    exact h1.cell 1
  have HB := Lib.hid hb
  obtain ⟨N8, hN8⟩ : ∃ N8, N8 = 8 * l.length := ⟨_, rfl⟩
  have HN8 := Lib.hid hN8
  rw [← hN8] at hp
  clear hb hN8
  go_enter Try.func220, Try.ntmps220
  go_wp2_with fail
  clear hc1
  go_loopw [5, 6] (fun v i wr => ∃ (k V P : Nat), k ≤ 16 ∧ i = .int .i64 k ∧ v = .int .u64 V ∧ Hid (V < 16 ^ k) ∧ Hid (rdNat l p = rdN l p (17 - k) k V P) ∧ P ≤ N8 ∧ RdrSt wr base g l P ∧ w.grownBy wr (some g) ∧ wr.heap.size = w.heap.size) (fun _ i _ => 17 - (intOf i).toNat)
  case atStart => exact ⟨0, 0, p, by omega, rfl, rfl, Lib.hid (by simp), Lib.hid rfl, hp, hst, World.grownBy.refl _ _, rfl⟩
  case round =>
    obtain ⟨k, V, P, hk, rfl, rfl, HV, HR, hP, hstr, hgr, hzr⟩ := hrel
    have HZ := Lib.hid hzr
    have hget := get_any g base l P 5 wr hstr (by rw [← HN8.out]; exact hP) (by omega) hs HB.out
    have HGET := Lib.hid hget
    have hrd : rdN l p (17 - k) k V P = if 8 * l.length < P + 5 then (14, 0, p) else if k = 16 ∨ (valAt l P 5 = 0 ∧ 0 < k) then (3, 0, p) else if valAt l P 5 < 16 then (0, V + valAt l P 5 % 16 * 16 ^ k, P + 5) else rdN l p (17 - (k + 1)) (k + 1) (V + valAt l P 5 % 16 * 16 ^ k) (P + 5) := by
      rw [show 17 - k = (17 - (k + 1)) + 1 by omega]; rfl
    have HRD := Lib.hid hrd
    have hg32 := valAt_lt l P 5
    clear hget hrd hzr hstr
    go_wp2_with fail
    refine HGET.out.mono ?_
    clear HGET
    rintro e w1 (⟨hfit, rfl, hst1, hgr1, hz1⟩ | ⟨hno, rfl, hst1, hgr1, hz1⟩)
    · have hf1 : w1.frozen? ⟨g, 1, none⟩ = false := by obtain ⟨A, c, h1, _⟩ := hst1; exact h1.frozen 1
      have hc1 : w1.cell? ⟨g, 1, none⟩ = some (.int .i64 ((P : Int) + 5)) := by obtain ⟨A, c, h1, _⟩ := hst1; exact h1.cell 1
      generalize valAt l P 5 = gv at *
      by_cases h16 : ((k : Int) == 16) = true
      · have hres : rdNat l p = (3, 0, p) := by rw [HR.out, HRD.out, if_neg (by omega), if_pos (.inl (beq_nat h16))]
        have HRES := Lib.hid hres
        have hst2 := hst1.pos p
        have hgr2 := Gb.set_ (Gb.trans hgr hgr1) 1 (.int .i64 p)
        have HZ2 := Lib.hid hz1
        clear hres hst1 hgr1 hgr hz1 HRD HR
        go_wp2_with fail
        go_ret2
        refine ⟨by rw [HRES.out]; rfl, by rw [HRES.out]; exact hst2, by rw [HRES.out, ← HN8.out]; exact hp, hgr2, ?_⟩
        have h1 := HZ2.out
        have h2 := HZ.out
        simp [World.setCell]; omega
      · have h16' : ((k : Int) == 16) = false := by simpa using h16
        have hk16 : k < 16 := by
          have : ¬ (k : Int) = 16 := by simpa using h16'
          omega
        clear h16
        by_cases h0 : ((gv : Int) == 0) = true ∧ 0 < k
        · obtain ⟨h01, h02⟩ := h0
          have hres : rdNat l p = (3, 0, p) := by rw [HR.out, HRD.out, if_neg (by omega), if_pos (.inr ⟨beq_nat h01, h02⟩)]
          have HRES := Lib.hid hres
          have hst2 := hst1.pos p
          have hgr2 := Gb.set_ (Gb.trans hgr hgr1) 1 (.int .i64 p)
          have HZ2 := Lib.hid hz1
          clear hres hst1 hgr1 hgr hz1 HRD HR
          go_wp2_with fail
          go_ret2
          refine ⟨by rw [HRES.out]; rfl, by rw [HRES.out]; exact hst2, by rw [HRES.out, ← HN8.out]; exact hp, hgr2, ?_⟩
          have h1 := HZ2.out
          have h2 := HZ.out
          simp [World.setCell]; omega
        · have hns : ¬ (k = 16 ∨ (gv = 0 ∧ 0 < k)) := by
            rintro (h | ⟨h, h'⟩)
            · omega
            · exact h0 ⟨by simp [h], h'⟩
          have hcase : ((gv : Int) == 0) = false ∨ (((gv : Int) == 0) = true ∧ k = 0) := by
            by_cases hg : ((gv : Int) == 0) = true
            · right; exact ⟨hg, (Nat.eq_zero_or_pos k).resolve_right fun h => h0 ⟨hg, h⟩⟩
            · left; simpa using hg
          have hor : Go.bits .or .u64 (V : Int) (IntKind.u64.wrap (Go.bits .and .u64 (gv : Int) 15 * 2 ^ (4 * k))) = ((V + gv % 16 * 16 ^ k : Nat) : Int) := by
            rcases rd_or V gv k HV.out hk16 with h | h
            · exact h
            · omega
          have hgrr := Gb.trans hgr hgr1
          have HZ2 := Lib.hid hz1
          have HNS := Lib.hid hns
          clear hgr hgr1 hz1 hns h0
          by_cases hlast : gv < 16
          · have hres : rdNat l p = (0, V + gv % 16 * 16 ^ k, P + 5) := by rw [HR.out, HRD.out, if_neg (by omega), if_neg HNS.out, if_pos hlast]
            have HRES := Lib.hid hres
            have HOR := Lib.hid hor
            clear hres hor HRD HR
            rcases hcase with hc | ⟨hc, rfl⟩
            all_goals
              go_wp2_with fail
              go_ret2
              refine ⟨by rw [HRES.out]; first | (rw [← HOR.out]; rfl) | (have := HOR.out; simp at this; simp [this]), by rw [HRES.out]; exact hst1, by rw [HRES.out]; exact hfit, hgrr, ?_⟩
              have h1 := HZ2.out
              have h2 := HZ.out
              omega
          · have hres : rdNat l p = rdN l p (17 - (k + 1)) (k + 1) (V + gv % 16 * 16 ^ k) (P + 5) := by rw [HR.out, HRD.out, if_neg (by omega), if_neg HNS.out, if_neg hlast]
            have hV2 : V + gv % 16 * 16 ^ k < 16 ^ (k + 1) := by
              have h1 : gv % 16 * 16 ^ k ≤ 15 * 16 ^ k := Nat.mul_le_mul_right _ (by omega)
              have h2 := HV.out
              rw [Nat.pow_succ]; omega
            have HRES := Lib.hid hres
            have HOR := Lib.hid hor
            have HV2 := Lib.hid hV2
            have h32 : gv < 32 := hg32
            clear hres hor HRD HR hV2
            rcases hcase with hc | ⟨hc, rfl⟩
            · go_wp2_with fail
              go_roundw
              case rel => exact ⟨k + 1, V + gv % 16 * 16 ^ k, P + 5, by omega, by go_num, by rw [← HOR.out], HV2, HRES, by have := HN8.out; omega, hst1, hgrr, by rw [HZ2.out, HZ.out]⟩
              case measure => simp [intOf]; omega
            · exact absurd (beq_nat (b := 0) hc) (by omega)
    · have hres : rdNat l p = (14, 0, p) := by rw [HR.out, HRD.out, if_pos (by omega)]
      have HRES := Lib.hid hres
      have hf1 : w1.frozen? ⟨g, 1, none⟩ = false := by obtain ⟨A, c, h1, _⟩ := hst1; exact h1.frozen 1
      have hc1 : w1.cell? ⟨g, 1, none⟩ = some (.int .i64 P) := by obtain ⟨A, c, h1, _⟩ := hst1; exact h1.cell 1
      have hst2 := hst1.pos p
      have hgr2 := Gb.set_ (Gb.trans hgr hgr1) 1 (.int .i64 p)
      have HZ2 := Lib.hid hz1
      clear hres hno hst1 hgr1 hgr hz1 HRD HR
      go_wp2_with fail
      go_ret2
      refine ⟨by rw [HRES.out]; rfl, by rw [HRES.out]; exact hst2, by rw [HRES.out, ← HN8.out]; exact hp, hgr2, ?_⟩
      have h1 := HZ2.out
      have h2 := HZ.out
      simp [World.setCell]; omega

def zag (v : Nat) : Int := if v % 2 = 0 then (v / 2 : Nat) else -((v / 2 : Nat) : Int) - 1
theorem zag_zig (x : Int) (h0 : -9223372036854775808 ≤ x) (h1 : x ≤ 9223372036854775807) : zag (zig x) = x := by
  unfold zag zig
  split
  · split <;> omega
  · split <;> omega
theorem zag_eq (v : Nat) (hv : v < 18446744073709551616) : wrap64 (Go.bits .xor .u64 ((v : Int) / 2) (IntKind.u64.wrap (-(Go.bits .and .u64 (v : Int) 1)))) = zag v := by
  have e0 : (v : Int) / 2 = ((v / 2 : Nat) : Int) := by norm_cast
  rw [show (1 : Int) = ((1 : Nat) : Int) from rfl, bvand _ _ hv (by omega), show v &&& 1 = v % 2 from Nat.and_one_is_mod v, e0]
  unfold zag
  by_cases h : v % 2 = 0
  · rw [if_pos h, h]
    have e1 : IntKind.u64.wrap (-((0 : Nat) : Int)) = ((0 : Nat) : Int) := by rw [IntKind.wrap_u64]; omega
    rw [e1, bvxor _ _ (by omega) (by omega), Nat.xor_zero]
    unfold wrap64; omega
  · have h1 : v % 2 = 1 := by omega
    rw [if_neg h, h1]
    have e1 : IntKind.u64.wrap (-((1 : Nat) : Int)) = ((18446744073709551615 : Nat) : Int) := by rw [IntKind.wrap_u64]; omega
    rw [e1, bvxor _ _ (by omega) (by omega), xor_ones _ (by omega)]
    unfold wrap64; omega
theorem rdN_lt (l : List Nat) (p0 : Nat) : ∀ (f i v p : Nat), v < 16 ^ i → i ≤ 16 → (rdN l p0 f i v p).2.1 < 18446744073709551616 := by
  intro f
  induction f with
  | zero => intro i v p _ _; simp [rdN]
  | succ f ih =>
    intro i v p hv hi
    unfold rdN
    split
    · simp
    · split
      · simp
      · rename_i h1 h2
        have hi2 : i < 16 := by
          rcases Nat.lt_or_ge i 16 with h | h
          · exact h
          · exact absurd (.inl (by omega)) h2
        have h3 : v + valAt l p 5 % 16 * 16 ^ i < 16 ^ (i + 1) := by
          have h4 : valAt l p 5 % 16 * 16 ^ i ≤ 15 * 16 ^ i := Nat.mul_le_mul_right _ (by omega)
          rw [Nat.pow_succ]; omega
        split
        · have : 16 ^ (i + 1) ≤ 16 ^ 16 := Nat.pow_le_pow_right (by omega) (by omega)
          have h5 : (16 : Nat) ^ 16 = 18446744073709551616 := by decide
          show v + valAt l p 5 % 16 * 16 ^ i < _
          omega
        · exact ih _ _ _ h3 (by omega)
theorem rdNat_lt (l : List Nat) (p : Nat) : (rdNat l p).2.1 < 18446744073709551616 := rdN_lt l p 17 0 0 p (by simp) (by omega)
theorem rdN_err (l : List Nat) (p0 : Nat) : ∀ (f i v p : Nat), (rdN l p0 f i v p).1 = 0 ∨ (rdN l p0 f i v p).1 = 3 ∨ (rdN l p0 f i v p).1 = 14 := by
  intro f
  induction f with
  | zero => intro i v p; simp [rdN]
  | succ f ih =>
    intro i v p
    unfold rdN
    split
    · simp
    · split
      · simp
      · split
        · simp
        · exact ih _ _ _

def RIPost (w : World) (base g : Nat) (l : List Nat) (p : Nat) (e : Ending) (w' : World) : Prop :=
  e = .returned (.tuple #[.int .i64 (if (rdNat l p).1 = 0 then zag (rdNat l p).2.1 else 0), .int .i64 (rdNat l p).1]) ∧ RdrSt w' base g l (rdNat l p).2.2 ∧ (rdNat l p).2.2 ≤ 8 * l.length ∧ w.grownBy w' (some g) ∧ w'.heap.size = w.heap.size
set_option maxHeartbeats 800000 in
theorem rint_any (g base : Nat) (l : List Nat) (p : Nat) (w : World) (hst : RdrSt w base g l p) (hp : p ≤ 8 * l.length) (hs : l.length ≤ 140737488355328) (hb : ∀ b ∈ l, b < 256) :
    Calls Try.prog 221 #[.pointer (some ⟨g, 0, none⟩)] w (RIPost w base g l p) := by
  have hn := rnat_any g base l p w hst hp hs hb
  have HN := Lib.hid hn
  have hlt := rdNat_lt l p
  have herr : (rdNat l p).1 = 0 ∨ (rdNat l p).1 = 3 ∨ (rdNat l p).1 = 14 := rdN_err l p 17 0 0 p
  clear hn hst hp hs hb
  go_enter Try.func221, Try.ntmps221
  go_wp2_with fail
  refine HN.out.mono ?_
  rintro e w1 ⟨rfl, h1, h2, h3, h4⟩
  obtain ⟨⟨err, v, q⟩, hr⟩ : ∃ r, r = rdNat l p := ⟨_, rfl⟩
  rw [← hr] at h1 h2 hlt herr ⊢
  have HR := Lib.hid hr
  have H1 := Lib.hid h1
  have H2 := Lib.hid h2
  have H3 := Lib.hid h3
  have H4 := Lib.hid h4
  have hz := zag_eq v hlt
  have HZ := Lib.hid hz
  clear h1 h2 h3 h4 hz hr
  simp only at herr hlt
  rcases herr with rfl | rfl | rfl
  · have hlt' : v ≤ 18446744073709551615 := by omega
    clear hlt
    go_wp2_with fail
    go_ret2
    unfold RIPost
    rw [← HR.out]
    exact ⟨congrArg (fun z => Ending.returned (.tuple #[.int .i64 z, .int .i64 0])) HZ.out, H1.out, H2.out, H3.out, H4.out⟩
  · clear hlt
    go_wp2_with fail
    go_ret2
    unfold RIPost
    rw [← HR.out]
    exact ⟨rfl, H1.out, H2.out, H3.out, H4.out⟩
  · clear hlt
    go_wp2_with fail
    go_ret2
    unfold RIPost
    rw [← HR.out]
    exact ⟨rfl, H1.out, H2.out, H3.out, H4.out⟩

/-! ### Ud -/
def bdL (l : List Nat) (a : List Int) (N : Nat) : Nat → List Int → Nat → Int × List Int × Nat
  | 0, b, p => (0, b, p)
  | f + 1, b, p =>
    if ¬ b.length < N then (0, b, p)
    else if (rdNat l p).1 ≠ 0 then ((rdNat l p).1, [], (rdNat l p).2.2)
    else if N - b.length < (rdNat l p).2.1 then (3, [], (rdNat l p).2.2)
    else if b.length + (rdNat l p).2.1 = N then (0, b ++ (List.range (rdNat l p).2.1).map fun j => bse a (b.length + j), (rdNat l p).2.2)
    else if (rdNat l (rdNat l p).2.2).1 ≠ 0 then ((rdNat l (rdNat l p).2.2).1, [], (rdNat l (rdNat l p).2.2).2.2)
    else bdL l a N f ((b ++ (List.range (rdNat l p).2.1).map fun j => bse a (b.length + j)) ++ [wrap64 (bse a (b.length + (rdNat l p).2.1) + zag (rdNat l (rdNat l p).2.2).2.1)]) (rdNat l (rdNat l p).2.2).2.2
def bodyD (l : List Nat) (a : List Int) (p : Nat) : Int × List Int × Nat :=
  if (rdNat l p).1 ≠ 0 then ((rdNat l p).1, [], (rdNat l p).2.2)
  else if 65536 < (rdNat l p).2.1 then (2, [], (rdNat l p).2.2)
  else bdL l a (rdNat l p).2.1 ((rdNat l p).2.1 + 1) [] (rdNat l p).2.2

def BodyPost (w : World) (base g : Nat) (l : List Nat) (a : List Int) (p : Nat) (e : Ending) (w' : World) : Prop :=
  ∃ A c, e = .returned (.tuple #[.slice A (bodyD l a p).2.1.length c, .int .i64 (bodyD l a p).1]) ∧ w'.ownsRow w.heap.size 3 1 (.slice A (bodyD l a p).2.1.length c) (bodyD l a p).2.1.length ((bodyD l a p).2.1.map (Value.int .i64)) ∧
    RdrSt w' base g l (bodyD l a p).2.2 ∧ (bodyD l a p).2.2 ≤ 8 * l.length ∧ Below base w w' ∧ (bodyD l a p).2.1.length ≤ 65536

theorem RdrSt.blw {w w' : World} {base g p : Nat} {l : List Nat} (h : RdrSt w base g l p) (hb : Below w.heap.size w w') : RdrSt w' base g l p := by
  obtain ⟨A, c, h1, h2, h3⟩ := h
  exact ⟨A, c, h1.below hb h1.lt, own_keepU h2 hb, by have := hb.size; omega⟩
theorem RdrSt.grown3 {w w' : World} {base g p b0 n : Nat} {l : List Nat} {v : Value} {xs : List Value} (h : RdrSt w base g l p) (ho : w.ownsRow b0 3 1 v n xs) (hg : w.grownBy w' v.ownBlock) : RdrSt w' base g l p := by
  obtain ⟨A, c, h1, h2, h3⟩ := h
  refine ⟨A, c, h1.grown hg (fun e => own_ne ho h1 (by decide) e.symm), h2.kept hg ?_, by have := hg.size; omega⟩
  rcases h2.2 with ⟨hv, _⟩ | ⟨g', cap, cur, hv, _, hh, _⟩
  · left; rw [hv]; rfl
  · right
    rw [hv]
    intro e
    exact own_ne ho (show Bk w g' 5 cur from hh) (by decide) e.symm
theorem RdrSt.b325 {w : World} {base g p : Nat} {l : List Nat} (h : RdrSt w base g l p) : ∃ cs, Bk w g 325 cs := by obtain ⟨A, c, h1, _⟩ := h; exact ⟨_, h1⟩
theorem own_rdr {w w' : World} {base g p b0 n : Nat} {l : List Nat} {v : Value} {xs : List Value} (ho : w.ownsRow b0 3 1 v n xs) (h : RdrSt w base g l p) (hg : w.grownBy w' (some g)) : w'.ownsRow b0 3 1 v n xs := by
  obtain ⟨cs, hk⟩ := h.b325
  exact ho.kept hg (.inr (own_ne ho hk (by decide)))
theorem range_snoc_map (f : Nat → Int) (t : Nat) : (List.range (t + 1)).map f = (List.range t).map f ++ [f t] := by rw [List.range_succ, List.map_append]; rfl

set_option maxHeartbeats 3200000 in
theorem body_any (g base p : Nat) (l : List Nat) (A : Option Addr) (n c B : Nat) (a : List Int) (w : World) (hst : RdrSt w base g l p) (hp : p ≤ 8 * l.length) (hs : l.length ≤ 140737488355328) (hb : ∀ b ∈ l, b < 256) (hbg : base ≤ g)
    (hr : Rd w B 1 A n (a.map (Value.int .i64))) (hn : n = a.length) (hn1 : n ≤ 65536) (hB : B ≤ base) :
    Calls Try.prog 189 #[.pointer (some ⟨g, 0, none⟩), .slice A n c] w (BodyPost w base g l a p) := by
  obtain ⟨i3, hi3, hy0, hy1, hy2⟩ := info_parts T.info3
  have hbw : base ≤ w.heap.size := by obtain ⟨_, _, _, _, h⟩ := hst; exact h
  have HR := Lib.hid hr
  have HN := Lib.hid hn
  have HB := Lib.hid hb
  have hn0 := rnat_any g base l p w hst hp hs hb
  have HN0 := Lib.hid hn0
  obtain ⟨⟨err, N, q⟩, hrd⟩ : ∃ r, r = rdNat l p := ⟨_, rfl⟩
  have herr : err = 0 ∨ err = 3 ∨ err = 14 := by have := rdN_err l p 17 0 0 p; rw [show rdN l p 17 0 0 p = rdNat l p from rfl, ← hrd] at this; exact this
  have hNlt : N ≤ 18446744073709551615 := by have := rdNat_lt l p; rw [← hrd] at this; simp only at this; omega
  have hbd : bodyD l a p = if err ≠ 0 then (err, [], q) else if 65536 < N then (2, [], q) else bdL l a N (N + 1) [] q := by unfold bodyD; rw [← hrd]
  have HRD := Lib.hid hrd
  have HBD := Lib.hid hbd
  clear hr hn hb hn0 hrd hbd hst
  go_enter Try.func189, Try.ntmps189
  go_wp2_with fail
  refine HN0.out.mono ?_
  rintro e w1 ⟨rfl, hst1, hq, hg1, hz1⟩
  rw [← HRD.out] at hst1 hq ⊢
  simp only at hst1 hq ⊢
  have hb1 := Gb.below hg1 hbg hbw
  have HZ1 := Lib.hid hz1
  clear hg1 hz1 HN0
  by_cases hbad : err = 0 ∧ N ≤ 65536
  rotate_left
  · have hcase : (err = 3 ∨ err = 14) ∨ (err = 0 ∧ 65536 < N) := by
      rcases herr with h | h | h
      · right; exact ⟨h, by rcases Nat.lt_or_ge 65536 N with h2 | h2
                            · exact h2
                            · exact absurd ⟨h, h2⟩ hbad⟩
      · left; left; exact h
      · left; right; exact h
    clear hbad herr
    rcases hcase with (rfl | rfl) | ⟨rfl, hN⟩
    all_goals
      go_wp2_with fail
      go_ret2
      have hD := HBD.out
      first | rw [if_pos (by decide)] at hD | rw [if_neg (by decide), if_pos hN] at hD
      unfold BodyPost
      rw [hD]
      exact ⟨none, 0, rfl, World.ownsRow_nil _ _ _ _, hst1, hq, hb1, by simp⟩
  obtain ⟨rfl, hN⟩ := hbad
  have hD : bodyD l a p = bdL l a N (N + 1) [] q := by rw [HBD.out, if_neg (by decide), if_neg (by omega)]
  have HD := Lib.hid hD
  have hsz1 : w.heap.size ≤ w1.heap.size := by have := HZ1.out; omega
  clear hD HBD herr
  go_wp2_with fail
  go_loopw [8] (fun out wr => ∃ (f : Nat) (b : List Int) (P : Nat) (OA : Option Addr) (oc m : Nat), Hid (m = b.length) ∧ m ≤ N ∧ out = .slice OA m oc ∧ N + 1 ≤ f + m ∧ Hid (bodyD l a p = bdL l a N f b P) ∧ P ≤ 8 * l.length ∧ RdrSt wr base g l P ∧ wr.ownsRow w.heap.size 3 1 (.slice OA m oc) m (b.map (Value.int .i64)) ∧ Below base w wr ∧ w.heap.size ≤ wr.heap.size) (fun out _ => N - sliceLen out)
  case atStart => exact ⟨N + 1, [], q, none, 0, 0, Lib.hid rfl, Nat.zero_le _, rfl, by omega, HD, hq, hst1, World.ownsRow_nil _ _ _ _, hb1, hsz1⟩
  case round =>
    obtain ⟨f, b, P, OA, oc, m, HM, hm, rfl, hf, HE, hP, hst, hown, hbel, hsz⟩ := hrel
    clear hst1 hb1 hsz1 hq HD
    by_cases hlt : m < N
    rotate_left
    · obtain rfl : m = N := by omega
      obtain ⟨f', rfl⟩ : ∃ f', f = f' + 1 := ⟨f - 1, by omega⟩
      have hfin : bodyD l a p = (0, b, P) := by rw [HE.out, bdL, if_pos (by have := HM.out; omega)]
      have HF := Lib.hid hfin
      clear hfin
      go_wp2_with fail
      go_ret2
      unfold BodyPost
      rw [HF.out]
      have := HM.out
      subst this
      exact ⟨OA, oc, rfl, hown, hst, hP, hbel, by omega⟩
    obtain ⟨f', rfl⟩ : ∃ f', f = f' + 1 := ⟨f - 1, by omega⟩
    have hn2 := rnat_any g base l P wr hst hP hs HB.out
    have HN2 := Lib.hid hn2
    obtain ⟨⟨err, S, q1⟩, hrd2⟩ : ∃ r, r = rdNat l P := ⟨_, rfl⟩
    have herr : err = 0 ∨ err = 3 ∨ err = 14 := by have := rdN_err l P 17 0 0 P; rw [show rdN l P 17 0 0 P = rdNat l P from rfl, ← hrd2] at this; exact this
    have hSlt : S ≤ 18446744073709551615 := by have := rdNat_lt l P; rw [← hrd2] at this; simp only at this; omega
    have hbd : bodyD l a p = if err ≠ 0 then (err, [], q1) else if N - m < S then (3, [], q1) else if m + S = N then (0, b ++ (List.range S).map fun j => bse a (m + j), q1)
        else if (rdNat l q1).1 ≠ 0 then ((rdNat l q1).1, [], (rdNat l q1).2.2) else bdL l a N f' ((b ++ (List.range S).map fun j => bse a (m + j)) ++ [wrap64 (bse a (m + S) + zag (rdNat l q1).2.1)]) (rdNat l q1).2.2 := by
      rw [HE.out, bdL, if_neg (by have := HM.out; omega), ← hrd2, ← HM.out]
    have HRD2 := Lib.hid hrd2
    have HBD := Lib.hid hbd
    clear hn2 hrd2 hbd
    go_wp2_with fail
    refine HN2.out.mono ?_
    rintro e w2 ⟨rfl, hst2, hq1, hg2, hz2⟩
    rw [← HRD2.out] at hst2 hq1 ⊢
    simp only at hst2 hq1 ⊢
    have hown2 := own_rdr hown hst hg2
    have hbel2 := hbel.trans (Gb.below hg2 hbg (by omega))
    have hsz2 : w.heap.size ≤ w2.heap.size := by omega
    clear hg2 hz2 HN2 hst hown hbel hsz
    rcases herr with rfl | rfl | rfl
    rotate_left
    · go_wp2_with fail
      go_ret2
      have hD := HBD.out
      rw [if_pos (by decide)] at hD
      unfold BodyPost
      rw [hD]
      exact ⟨none, 0, rfl, World.ownsRow_nil _ _ _ _, hst2, hq1, hbel2, by simp⟩
    · go_wp2_with fail
      go_ret2
      have hD := HBD.out
      rw [if_pos (by decide)] at hD
      unfold BodyPost
      rw [hD]
      exact ⟨none, 0, rfl, World.ownsRow_nil _ _ _ _, hst2, hq1, hbel2, by simp⟩
    by_cases hS : N - m < S
    · have hS' : (N : Int) - m < S := by omega
      go_wp2_with fail
      go_ret2
      have hD := HBD.out
      rw [if_neg (by decide), if_pos hS] at hD
      unfold BodyPost
      rw [hD]
      exact ⟨none, 0, rfl, World.ownsRow_nil _ _ _ _, hst2, hq1, hbel2, by simp⟩
    have hS' : (S : Int) ≤ N - m := by omega
    have hS2 : m + S ≤ N := by omega
    go_wp2_with fail
    go_loopw [8, 43] (fun out v wr => ∃ (t M : Nat) (OA2 : Option Addr) (oc2 : Nat), t ≤ S ∧ Hid (M = m + t) ∧ M ≤ N ∧ v = .int .u64 t ∧ out = .slice OA2 M oc2 ∧ wr.ownsRow w.heap.size 3 1 (.slice OA2 M oc2) M ((b ++ (List.range t).map fun j => bse a (m + j)).map (Value.int .i64)) ∧ RdrSt wr base g l q1 ∧ Below base w wr ∧ w.heap.size ≤ wr.heap.size) (fun _ v _ => S - (intOf v).toNat)
    case atStart => exact ⟨0, m, OA, oc, Nat.zero_le _, Lib.hid rfl, hm, rfl, rfl, by simpa using hown2, hst2, hbel2, hsz2⟩
    case round =>
      obtain ⟨t, M, OA2, oc2, ht, HMM, hMN, rfl, rfl, hown3, hst3, hbel3, hsz3⟩ := hrel
      clear hown2 hst2 hbel2 hsz2
      by_cases htS : t < S
      · have hba := base_any A n c B M a wr (HR.out.below (hbel3.mono hB)) HN.out (by omega) (by omega)
        have HBA := Lib.hid hba
        obtain ⟨y, hy⟩ : ∃ y, y = bse a M := ⟨_, rfl⟩
        rw [← hy] at hba
        replace HBA := Lib.hid hba
        have HY := Lib.hid hy
        clear hba hy
        go_wp2_with fail
        refine HBA.out.mono ?_
        rintro e w4 ⟨rfl, rfl⟩
        go_wp2_with
          (at_builtin
           go_must (refine wpList_append_one _ rfl (.tmp 45) (.tmp 50) _ rfl w.heap.size 3 i3 (.int .i64 0) 1 8 Try.underlying30 hi3 hy0 hy1 hy2 rfl (by decide) (.slice OA2 M oc2) M _ rfl (hown3.alloc _) wr.heap.size 1 3 #[.int .i64 y] rfl (Bk.new _ _ _) rfl ?c1 (M + 1) rfl ?c2 ?c3 ?c4 ?_)
           case c1 => simp [Value.oneCell']
           case c2 => unfold maxLen; omega
           case c3 => omega
           case c4 => simp; omega
           intro g5 cc5 w5 hown5 hg5 hat5
           have hst5 := (hst3.blw ((Below.refl _ _).alloc (Nat.le_refl _) (.cells #[.int .i64 y] 3))).grown3 (hown3.alloc _) hg5
           have hbel5 := (hbel3.alloc (by omega) (.cells #[.int .i64 y] 3)).grown hg5 (by simp; omega) (fun q hq => by have := (hown3.lt q hq).1; omega)
           have hsz5 : w.heap.size ≤ w5.heap.size := by have := hg5.size; simp at this; omega
           have HO5 : Hid (w5.ownsRow w.heap.size 3 1 (.slice (some ⟨g5, 0, none⟩) (M + 1) cc5) (M + 1) ((b ++ (List.range (t + 1)).map fun j => bse a (m + j)).map (Value.int .i64))) := Lib.hid (by
             rw [range_snoc_map, ← List.append_assoc, List.map_append, ← HMM.out, ← HY.out]
             exact hown5)
           clear hown5 hg5 hat5)
        go_roundw
        case rel => exact ⟨t + 1, M + 1, some ⟨g5, 0, none⟩, cc5, by omega, Lib.hid (by have := HMM.out; omega), by have := HMM.out; omega, by go_num, rfl, HO5.out, hst5, hbel5, hsz5⟩
        case measure => simp [intOf]; omega
      · obtain rfl : t = S := by omega
        by_cases hend : M = N
        · subst hend
          have hD := HBD.out
          rw [if_neg (by decide), if_neg hS, if_pos HMM.out.symm] at hD
          have HD := Lib.hid hD
          clear hD
          go_wp2_with fail
          go_ret2
          unfold BodyPost
          rw [HD.out]
          have hl : (b ++ (List.range t).map fun j => bse a (m + j)).length = M := by rw [List.length_append, List.length_map, List.length_range, ← HM.out, HMM.out]
          simp only [hl]
          exact ⟨OA2, oc2, rfl, hown3, hst3, hq1, hbel3, hN⟩
        · have hend' : ((M : Int) == N) = false := by simp; omega
          have hri := rint_any g base l q1 wr hst3 hq1 hs HB.out
          have HRI := Lib.hid hri
          obtain ⟨⟨err2, V2, q2⟩, hrd3⟩ : ∃ r, r = rdNat l q1 := ⟨_, rfl⟩
          have herr2 : err2 = 0 ∨ err2 = 3 ∨ err2 = 14 := by have := rdN_err l q1 17 0 0 q1; rw [show rdN l q1 17 0 0 q1 = rdNat l q1 from rfl, ← hrd3] at this; exact this
          have hD := HBD.out
          rw [if_neg (by decide), if_neg hS, if_neg (by have := HMM.out; omega), ← hrd3, ← HMM.out] at hD
          have HD := Lib.hid hD
          have HRD3 := Lib.hid hrd3
          clear hD hrd3 hri
          go_wp2_with fail
          refine HRI.out.mono ?_
          rintro e w4 ⟨rfl, hst4, hq2, hg4, hz4⟩
          rw [← HRD3.out] at hst4 hq2 ⊢
          simp only at hst4 hq2 ⊢
          have hown4 := own_rdr hown3 hst3 hg4
          have hbel4 := hbel3.trans (Gb.below hg4 hbg (by omega))
          have hsz4 : w.heap.size ≤ w4.heap.size := by omega
          clear hg4 hz4 HRI hst3 hown3 hbel3 hsz3
          rcases herr2 with rfl | rfl | rfl
          rotate_left
          · go_wp2_with fail
            go_ret2
            have hD := HD.out
            rw [if_pos (by decide)] at hD
            unfold BodyPost
            rw [hD]
            exact ⟨none, 0, rfl, World.ownsRow_nil _ _ _ _, hst4, hq2, hbel4, by simp⟩
          · go_wp2_with fail
            go_ret2
            have hD := HD.out
            rw [if_pos (by decide)] at hD
            unfold BodyPost
            rw [hD]
            exact ⟨none, 0, rfl, World.ownsRow_nil _ _ _ _, hst4, hq2, hbel4, by simp⟩
          simp only [if_true]
          have hba := base_any A n c B M a w4 (HR.out.below (hbel4.mono hB)) HN.out (by omega) (by omega)
          obtain ⟨y, hy⟩ : ∃ y, y = bse a M := ⟨_, rfl⟩
          rw [← hy] at hba
          have HBA := Lib.hid hba
          have HY := Lib.hid hy
          obtain ⟨x, hx⟩ : ∃ x, x = zag V2 := ⟨_, rfl⟩
          have HX := Lib.hid hx
          rw [← hx]
          clear hba hy hx
          go_wp2_with fail
          refine HBA.out.mono ?_
          rintro e w5 ⟨rfl, rfl⟩
          go_wp2_with
            (at_builtin
             go_must (refine wpList_append_one _ rfl (.tmp 66) (.tmp 73) _ rfl w.heap.size 3 i3 (.int .i64 0) 1 8 Try.underlying30 hi3 hy0 hy1 hy2 rfl (by decide) (.slice OA2 M oc2) M _ rfl (hown4.alloc _) w4.heap.size 1 3 #[.int .i64 (wrap64 (y + x))] rfl (Bk.new _ _ _) rfl ?d1 (M + 1) rfl ?d2 ?d3 ?d4 ?_)
             case d1 => simp [Value.oneCell']
             case d2 => unfold maxLen; omega
             case d3 => omega
             case d4 => simp; omega
             intro g5 cc5 w5 hown5 hg5 hat5
             have hst5 := (hst4.blw ((Below.refl _ _).alloc (Nat.le_refl _) (.cells #[.int .i64 (wrap64 (y + x))] 3))).grown3 (hown4.alloc _) hg5
             have hbel5 := (hbel4.alloc (by omega) (.cells #[.int .i64 (wrap64 (y + x))] 3)).grown hg5 (by simp; omega) (fun q hq => by have := (hown4.lt q hq).1; omega)
             have hsz5 : w.heap.size ≤ w5.heap.size := by have := hg5.size; simp at this; omega
             have HO5 := Lib.hid hown5
             clear hown5 hg5 hat5)
          go_roundw
          case rel =>
            refine ⟨f', (b ++ (List.range t).map fun j => bse a (m + j)) ++ [wrap64 (y + x)], q2, some ⟨g5, 0, none⟩, cc5, M + 1, Lib.hid ?_, by have := HMM.out; omega, rfl, by have := HMM.out; omega, Lib.hid ?_, hq2, hst5, ?_, hbel5, hsz5⟩
            · rw [List.length_append, List.length_append, List.length_map, List.length_range, ← HM.out, HMM.out]; rfl
            · rw [HD.out, if_neg (by decide), HY.out, HX.out]
            · rw [List.map_append]; exact HO5.out
          case measure => simp only [sliceLen]; have := HMM.out; omega

theorem wrap64_rng (x : Int) : -9223372036854775808 ≤ wrap64 x ∧ wrap64 x ≤ 9223372036854775807 := by unfold wrap64; omega
theorem bse_rng {a : List Int} (ha : i64r a) (i : Nat) : -9223372036854775808 ≤ bse a i ∧ bse a i ≤ 9223372036854775807 := by
  unfold bse
  rcases Nat.lt_or_ge i a.length with h | h
  · have h1 : a.getD i 0 = a[i] := by simp [List.getD, List.getElem?_eq_getElem h]
    rw [h1]; exact ha _ (List.getElem_mem h)
  · have h1 : a.getD i 0 = 0 := by simp [List.getD, List.getElem?_eq_none h]
    rw [h1]; omega
theorem bdL_rng (l : List Nat) {a : List Int} (N : Nat) (ha : i64r a) : ∀ (f : Nat) (b : List Int) (p : Nat), i64r b → i64r (bdL l a N f b p).2.1 := by
  have hnil : i64r [] := fun x hx => by cases hx
  intro f
  induction f with
  | zero => intro b p hb; exact hb
  | succ f ih =>
    intro b p hb
    have hb1 : ∀ m : Nat, i64r (b ++ (List.range m).map fun j => bse a (b.length + j)) := fun m x hx => by
      rcases List.mem_append.1 hx with hx | hx
      · exact hb x hx
      · obtain ⟨j, _, rfl⟩ := List.mem_map.1 hx
        exact bse_rng ha _
    unfold bdL
    split
    · exact hb
    · split
      · exact hnil
      · split
        · exact hnil
        · split
          · exact hb1 _
          · split
            · exact hnil
            · refine ih _ _ fun x hx => ?_
              rcases List.mem_append.1 hx with hx | hx
              · exact hb1 _ x hx
              · obtain rfl := List.mem_singleton.1 hx
                exact wrap64_rng _
theorem bodyD_rng (l : List Nat) {a : List Int} (p : Nat) (ha : i64r a) : i64r (bodyD l a p).2.1 := by
  have hnil : i64r [] := fun x hx => by cases hx
  unfold bodyD
  split
  · exact hnil
  · split
    · exact hnil
    · exact bdL_rng l _ ha _ _ _ hnil

/-- What delta.Back returns. -/
def backD (a : List Int) (d : List Nat) : Int × List Int :=
  if 65536 < a.length then (2, [])
  else if 8 * d.length < 64 then (14, [])
  else if (valAt d 0 64 : Int) ≠ sumI a then (13, [])
  else if 8 * d.length < 128 then (14, [])
  else if (bodyD d a 128).1 ≠ 0 then ((bodyD d a 128).1, [])
  else if sumI (bodyD d a 128).2.1 ≠ (valAt d 64 64 : Int) then (13, [])
  else if (encB a (bodyD d a 128).2.1).length ≤ 524288 ∧ (bodyD d a 128).2.1.length ≤ 65536 ∧ packB (encB a (bodyD d a 128).2.1) = d then (0, (bodyD d a 128).2.1) else (3, [])

def BackPost (w : World) (a : List Int) (d : List Nat) (e : Ending) (w' : World) : Prop := RetS2 w 3 1 (backD a d).2.length ((backD a d).2.map (Value.int .i64)) (backD a d).1 e w'
theorem BackPost.nil {w w' : World} {a : List Int} {d : List Nat} {err : Int} (h : backD a d = (err, [])) (hb : Below w.heap.size w w') : BackPost w a d (.returned (.tuple #[.slice none 0 0, .int .i64 err])) w' := by
  unfold BackPost; rw [h]
  exact ⟨none, 0, rfl, World.ownsRow_nil _ _ _ _, hb⟩

set_option maxHeartbeats 3200000 in
theorem back_any (A A' : Option Addr) (n c n' c' B : Nat) (a : List Int) (d : List Nat) (w : World) (hr : Rd w B 1 A n (a.map (Value.int .i64))) (hr' : Rd w B 1 A' n' (bytesV d)) (hn : n = a.length) (hn' : n' = d.length) (hnc : n ≤ 9223372036854775807) (hs : n' ≤ 140737488355328) (ha : i64r a) (hb : ∀ b ∈ d, b < 256) (hB : B ≤ w.heap.size) :
    Calls Try.prog 126 #[.slice A n c, .slice A' n' c'] w (BackPost w a d) := by
  by_cases hbig : 65536 < n
  · have hD : backD a d = (2, []) := by unfold backD; rw [if_pos (by omega)]
    have HD := Lib.hid hD
    clear hr hr' hn hn' hD
    go_enter Try.func126, Try.ntmps126
    go_wp2_with fail
    go_ret2
    exact BackPost.nil HD.out (Below.refl _ _)
  have hn1 : n ≤ 65536 := by omega
  have hnew := new_any A' n' c' B d w hn' hr' hs
  have HNEW := Lib.hid hnew
  have hbd : backD a d = if 8 * d.length < 64 then (14, []) else if (valAt d 0 64 : Int) ≠ sumI a then (13, []) else if 8 * d.length < 128 then (14, []) else if (bodyD d a 128).1 ≠ 0 then ((bodyD d a 128).1, []) else if sumI (bodyD d a 128).2.1 ≠ (valAt d 64 64 : Int) then (13, [])
      else if (encB a (bodyD d a 128).2.1).length ≤ 524288 ∧ (bodyD d a 128).2.1.length ≤ 65536 ∧ packB (encB a (bodyD d a 128).2.1) = d then (0, (bodyD d a 128).2.1) else (3, []) := by unfold backD; rw [if_neg (by omega)]
  have HBD := Lib.hid hbd
  have HR := Lib.hid hr
  have HR' := Lib.hid hr'
  have HN := Lib.hid hn
  have HN' := Lib.hid hn'
  have HA := Lib.hid ha
  have HB := Lib.hid hb
  obtain ⟨D8, hD8⟩ : ∃ D8, D8 = 8 * d.length := ⟨_, rfl⟩
  have HD8 := Lib.hid hD8
  have hsd : d.length ≤ 140737488355328 := by omega
  clear hr hr' hn hn' ha hb hnew hbd hbig hnc hD8
  go_enter Try.func126, Try.ntmps126
  go_wp2_with fail
  refine HNEW.out.mono ?_
  rintro e w1 ⟨g, rfl, hg, hst1, hb1⟩
  clear HNEW
  go_wp2_with fail
  refine (get_any g w.heap.size d 0 64 w1 hst1 (by omega) (by omega) hsd HB.out).mono ?_
  rintro e w2 (⟨hf, rfl, hst2, hg2, hz2⟩ | ⟨hf, rfl, hst2, hg2, hz2⟩)
  rotate_left
  · have hb2 := hb1.trans (Gb.below hg2 hg hb1.size)
    have hD : backD a d = (14, []) := by rw [HBD.out, if_pos (by omega)]
    have HD := Lib.hid hD
    clear hD hf hg2 hz2 hst2 hst1 hb1
    go_wp2_with fail
    go_ret2
    exact BackPost.nil HD.out hb2
  have hb2 := hb1.trans (Gb.below hg2 hg hb1.size)
  have hs2 := hb2.size
  have hv0 := valAt_lt d 0 64
  have HF := Lib.hid hf
  clear hg2 hz2 hst1 hb1 hf
  obtain ⟨v0, hv0e⟩ : ∃ v0, v0 = valAt d 0 64 := ⟨_, rfl⟩
  rw [← hv0e] at hv0 ⊢
  have HV0 := Lib.hid hv0e
  clear hv0e
  have hst2' : RdrSt w2 w.heap.size g d 64 := by simpa using hst2
  clear hst2
  go_wp2_with fail
  refine (sumInts_any A n c B a w2 (HR.out.below (hb2.mono hB)) HN.out (by omega) (by omega) HA.out).mono ?_
  rintro e w3 ⟨rfl, hb3⟩
  have hst3 := hst2'.blw hb3
  have hbb3 := hb2.trans (hb3.mono hs2)
  have hs3 := hbb3.size
  clear hst2' hb3 hb2 hs2
  by_cases hsum : ((v0 : Int) != sumI a) = true
  · have hD : backD a d = (13, []) := by
      rw [HBD.out, if_neg (by have := HF.out; omega), if_pos (by rw [← HV0.out]; simpa using hsum)]
    have HD := Lib.hid hD
    clear hD
    go_wp2_with fail
    go_ret2
    exact BackPost.nil HD.out hbb3
  have hsum' : ((v0 : Int) != sumI a) = false := by simpa using hsum
  have hbd2 : backD a d = if 8 * d.length < 128 then (14, []) else if (bodyD d a 128).1 ≠ 0 then ((bodyD d a 128).1, []) else if sumI (bodyD d a 128).2.1 ≠ (valAt d 64 64 : Int) then (13, [])
      else if (encB a (bodyD d a 128).2.1).length ≤ 524288 ∧ (bodyD d a 128).2.1.length ≤ 65536 ∧ packB (encB a (bodyD d a 128).2.1) = d then (0, (bodyD d a 128).2.1) else (3, []) := by
    rw [HBD.out, if_neg (by have := HF.out; omega), if_neg (by rw [← HV0.out]; simpa using hsum)]
  have HBD2 := Lib.hid hbd2
  clear hbd2 hsum HBD
  go_wp2_with fail
  refine (get_any g w.heap.size d 64 64 w3 hst3 (by have := HF.out; omega) (by omega) hsd HB.out).mono ?_
  rintro e w4 (⟨hf, rfl, hst4, hg4, hz4⟩ | ⟨hf, rfl, hst4, hg4, hz4⟩)
  rotate_left
  · have hb4 := hbb3.trans (Gb.below hg4 hg hs3)
    have hD : backD a d = (14, []) := by rw [HBD2.out, if_pos (by omega)]
    have HD := Lib.hid hD
    clear hD hf hg4 hz4 hst4 hst3
    go_wp2_with fail
    go_ret2
    exact BackPost.nil HD.out hb4
  have hb4 := hbb3.trans (Gb.below hg4 hg hs3)
  have hs4 := hb4.size
  have hv1 := valAt_lt d 64 64
  have HF2 := Lib.hid hf
  clear hg4 hz4 hst3 hbb3 hs3 hf
  obtain ⟨v1, hv1e⟩ : ∃ v1, v1 = valAt d 64 64 := ⟨_, rfl⟩
  rw [← hv1e] at hv1 ⊢
  have HV1 := Lib.hid hv1e
  clear hv1e
  have hbody := body_any g w.heap.size 128 d A n c B a w4 hst4 (by have := HF2.out; omega) hsd HB.out hg (HR.out.below (hb4.mono hB)) HN.out hn1 hB
  have HBODY := Lib.hid hbody
  clear hbody hst4
  go_wp2_with fail
  refine HBODY.out.mono ?_
  rintro e w5 ⟨A5, c5, rfl, hown5, hst5, _, hb5, hbl⟩
  have hrng := bodyD_rng d 128 HA.out
  have hbd3 : backD a d = if (bodyD d a 128).1 ≠ 0 then ((bodyD d a 128).1, []) else if sumI (bodyD d a 128).2.1 ≠ (v1 : Int) then (13, [])
      else if (encB a (bodyD d a 128).2.1).length ≤ 524288 ∧ (bodyD d a 128).2.1.length ≤ 65536 ∧ packB (encB a (bodyD d a 128).2.1) = d then (0, (bodyD d a 128).2.1) else (3, []) := by
    rw [HBD2.out, if_neg (by have := HF2.out; omega), HV1.out]
  generalize bodyD d a 128 = r at *
  obtain ⟨err, b, q⟩ := r
  simp only at hown5 hbl hrng hbd3 ⊢
  have hbb5 := hb4.trans hb5
  have hs5 := hbb5.size
  have HBD3 := Lib.hid hbd3
  have HRNG := Lib.hid hrng
  clear hb4 hb5 hst5 HBD2 hbd3 hrng HBODY
  by_cases herr : (err != 0) = true
  · have hD : backD a d = (err, []) := by rw [HBD3.out, if_pos (by simpa using herr)]
    have HD := Lib.hid hD
    clear hD
    go_wp2_with fail
    go_ret2
    exact BackPost.nil HD.out hbb5
  have herr' : (err != 0) = false := by simpa using herr
  obtain ⟨m, hm⟩ : ∃ m, m = b.length := ⟨_, rfl⟩
  rw [← hm] at hown5 hbl ⊢
  have HM := Lib.hid hm
  have hbR : Rd w5 w5.heap.size 1 A5 m (b.map (Value.int .i64)) := Rd.of_own hown5
  have HBD4 : Hid (backD a d = if sumI b ≠ (v1 : Int) then (13, []) else if (encB a b).length ≤ 524288 ∧ b.length ≤ 65536 ∧ packB (encB a b) = d then (0, b) else (3, [])) := Lib.hid (by rw [HBD3.out, if_neg (by simpa using herr)])
  have HOWN5 := Lib.hid hown5
  clear herr HBD3 hm hown5
  go_wp2_with fail
  refine (sumInts_any A5 m c5 w5.heap.size b w5 hbR HM.out (by omega) (Nat.le_refl _) HRNG.out).mono ?_
  rintro e w6 ⟨rfl, hb6⟩
  have hbb6 := hbb5.trans (hb6.mono hs5)
  have hs6 := hbb6.size
  have hbR6 := hbR.below hb6
  have hown6 := own_keepU HOWN5.out hb6
  have hs56 := hb6.size
  by_cases hsum2 : (sumI b != (v1 : Int)) = true
  · have hD : backD a d = (13, []) := by rw [HBD4.out, if_pos (by simpa using hsum2)]
    have HD := Lib.hid hD
    clear hD hbR hb6 hbR6 hown6
    go_wp2_with fail
    go_ret2
    exact BackPost.nil HD.out hbb6
  have hsum2' : (sumI b != (v1 : Int)) = false := by simpa using hsum2
  have HBD5 : Hid (backD a d = if (encB a b).length ≤ 524288 ∧ b.length ≤ 65536 ∧ packB (encB a b) = d then (0, b) else (3, [])) := Lib.hid (by rw [HBD4.out, if_neg (by simpa using hsum2)])
  have hints := ints_any A A5 n c m c5 w6.heap.size a b w6 ((HR.out.below (hbb6.mono hB)).more (by omega)) (hbR6.more (by omega)) HN.out HM.out ⟨by omega, by omega⟩ HA.out HRNG.out (Nat.le_refl _)
  have HINTS := Lib.hid hints
  clear hsum2 HBD4 hints hbR hbR6 hb6 HOWN5
  go_wp2_with fail
  refine HINTS.out.mono ?_
  rintro e w7 (⟨hok, A7, c7, rfl, hown7, hb7⟩ | ⟨hno, A7, c7, rfl, hown7, hb7⟩)
  rotate_left
  · have hD : backD a d = (3, []) := by
      rw [HBD5.out, if_neg]
      rintro ⟨h1, h2, _⟩
      exact hno ⟨by have := HN.out; omega, h2, h1⟩
    have HD := Lib.hid hD
    have hbb7 := hbb6.trans (hb7.mono hs6)
    clear hD hno hown7 hb7 hown6 HINTS
    go_wp2_with fail
    go_ret2
    exact BackPost.nil HD.out hbb7
  have hbb7 := hbb6.trans (hb7.mono hs6)
  have hs7 := hbb7.size
  have hown8 := own_keepU hown6 hb7
  have hPl := packB_lt (encB a b)
  have heq := bytesEqual_any A7 A' (packB (encB a b)).length c7 n' c' w7.heap.size (packB (encB a b)) d w7 hPl.1 HB.out (Rd.of_own hown7) ((HR'.out.below (hbb7.mono hB)).more (by omega))
  obtain ⟨dB, hdB⟩ : ∃ dB : Bool, decide (packB (encB a b) = d) = dB := ⟨_, rfl⟩
  rw [hdB] at heq
  have HEQ := Lib.hid heq
  have HDB := Lib.hid hdB
  have HOK := Lib.hid hok
  have HO8 := Lib.hid hown8
  clear heq hdB hok hown7 hb7 hown6 HINTS hPl hown8
  generalize (packB (encB a b)).length = PL at *
  go_wp2_with fail
  refine HEQ.out.mono ?_
  rintro e w8 ⟨rfl, rfl⟩
  cases dB with
  | false =>
    have hD : backD a d = (3, []) := by
      rw [HBD5.out, if_neg]
      rintro ⟨_, _, h⟩
      exact absurd h (of_decide_eq_false HDB.out)
    have HD := Lib.hid hD
    clear hD
    go_wp2_with fail
    go_ret2
    exact BackPost.nil HD.out hbb7
  | true =>
    have hD : backD a d = (0, b) := by
      rw [HBD5.out, if_pos ⟨HOK.out.2.2, HOK.out.2.1, of_decide_eq_true HDB.out⟩]
    have HD := Lib.hid hD
    clear hD
    go_wp2_with fail
    go_ret2
    unfold BackPost
    rw [HD.out]
    have h1 := HM.out
    refine ⟨A5, c5, by rw [← h1]; rfl, ?_, hbb7⟩
    show World.ownsRow _ _ _ _ (.slice A5 b.length c5) b.length _
    rw [← h1]
    exact own_mono HO8.out (by omega)

/-! ### Ue -/
theorem valAt_eq (l : List Nat) (p n v : Nat) (hv : v < 2 ^ n) (h : ∀ j, j < n → bitAt l (p + j) = v.testBit j) : valAt l p n = v := by
  induction n generalizing v with
  | zero => simp at hv; subst hv; rfl
  | succ n ih =>
    have h1 : v % 2 ^ n < 2 ^ n := Nat.mod_lt _ (Nat.two_pow_pos _)
    have h2 := ih (v % 2 ^ n) h1 (fun j hj => by rw [h j (by omega), Nat.testBit_mod_two_pow]; simp [hj])
    simp only [valAt]
    rw [h2, h n (by omega)]
    have h3 : v / 2 ^ n < 2 := by rw [Nat.div_lt_iff_lt_mul (Nat.two_pow_pos _)]; rw [Nat.pow_succ] at hv; omega
    have h4 : (v.testBit n).toNat = v / 2 ^ n := by
      rw [Nat.testBit_eq_decide_div_mod_eq]
      generalize v / 2 ^ n = d at h3
      have : d = 0 ∨ d = 1 := by omega
      rcases this with h | h <;> simp [h]
    rw [h4, Nat.add_comm, Nat.mul_comm]
    exact Nat.div_add_mod v (2 ^ n)
theorem bitsOf_getD (v n j : Nat) (h : j < n) : (bitsOf v n).getD j false = v.testBit j := by
  simp [bitsOf, List.getD, h]
theorem getD_append_left {l k : List Bool} {j : Nat} (h : j < l.length) : (l ++ k).getD j false = l.getD j false := by
  simp [List.getD, List.getElem?_append_left h]
theorem getD_append_right {l k : List Bool} {j : Nat} (h : l.length ≤ j) : (l ++ k).getD j false = k.getD (j - l.length) false := by
  simp [List.getD, List.getElem?_append_right h]

/-- What is still to be written of the rest of a list, from place k on, with s equal ones pending. -/
def encR (a : List Int) : List Int → Nat → Nat → List Bool
  | [], _, s => if 0 < s then natB s else []
  | x :: r, k, s => if x = bse a k then encR a r (k + 1) (s + 1) else natB s ++ natB (zig (wrap64 (x - bse a k))) ++ encR a r (k + 1) 0

theorem encTo_R (a b : List Int) (hd : List Bool) : ∀ (r : List Int) (k : Nat), k ≤ b.length → b.drop k = r → encEnd (encTo a b hd b.length) = (encTo a b hd k).2 ++ encR a r k (encTo a b hd k).1 := by
  intro r
  induction r with
  | nil =>
    intro k hk hr
    have hl : (b.drop k).length = 0 := by rw [hr]; rfl
    rw [List.length_drop] at hl
    obtain rfl : k = b.length := by omega
    unfold encEnd encR
    split <;> simp
  | cons x r ih =>
    intro k hk hr
    have hl : (b.drop k).length = r.length + 1 := by rw [hr]; rfl
    rw [List.length_drop] at hl
    have hx : b.getD k 0 = x := by
      have := List.getElem?_drop (xs := b) (i := k) (j := 0)
      rw [hr] at this
      simp at this
      simp [List.getD, ← this]
    have hr' : b.drop (k + 1) = r := by
      rw [← List.drop_drop, hr]; rfl
    rw [ih (k + 1) (by omega) hr', encR]
    by_cases h : x = bse a k
    · rw [if_pos h, encTo, if_pos (by rw [hx]; exact h)]
    · rw [if_neg h, encTo, if_neg (by rw [hx]; exact h), hx]
      simp [List.append_assoc]
theorem encB_R (a b : List Int) : encB a b = encH a b ++ encR a b 0 0 := encTo_R a b (encH a b) b 0 (Nat.zero_le _) rfl

/-- From a place on, these bits stand there. -/
def HasB (d : List Nat) (p : Nat) (bits : List Bool) : Prop := p + bits.length ≤ 8 * d.length ∧ ∀ j, j < bits.length → bitAt d (p + j) = bits.getD j false
theorem HasB.left {d : List Nat} {p : Nat} {x y : List Bool} (h : HasB d p (x ++ y)) : HasB d p x := by
  refine ⟨by have := h.1; rw [List.length_append] at this; omega, fun j hj => ?_⟩
  rw [h.2 j (by rw [List.length_append]; omega), getD_append_left hj]
theorem HasB.right {d : List Nat} {p : Nat} {x y : List Bool} (h : HasB d p (x ++ y)) : HasB d (p + x.length) y := by
  refine ⟨by have := h.1; rw [List.length_append] at this; omega, fun j hj => ?_⟩
  have := h.2 (x.length + j) (by rw [List.length_append]; omega)
  rw [getD_append_right (by omega), Nat.add_sub_cancel_left] at this
  rw [Nat.add_assoc]; exact this
theorem HasB.pack (l : List Bool) : HasB (packB l) 0 l := by
  refine ⟨by have := packB_length l; omega, fun j hj => ?_⟩
  rw [Nat.zero_add]; exact packB_bit l j hj
theorem HasB.val {d : List Nat} {p v n : Nat} (hv : v < 2 ^ n) (h : HasB d p (bitsOf v n)) : valAt d p n = v :=
  valAt_eq d p n v hv fun j hj => by rw [h.2 j (by rw [bitsOf_length]; exact hj), bitsOf_getD _ _ _ hj]

theorem HasB.chunk {d : List Nat} {p v n : Nat} : ∀ {k : Nat}, HasB d p (natP v n k) → ∀ i, i < k → HasB d (p + 5 * i) (bitsOf (v / 16 ^ i % 16) 4 ++ [decide (i + 1 < n)]) := by
  intro k
  induction k with
  | zero => intro _ i hi; omega
  | succ k ih =>
    intro h i hi
    rw [natP_succ] at h
    rcases Nat.lt_or_ge i k with h1 | h1
    · exact ih h.left i h1
    · obtain rfl : i = k := by omega
      have := h.right
      rw [natP_length] at this; exact this
theorem grp_hi (v : Nat) : v < 16 ^ grp v := by
  rw [pow16]; unfold grp
  have h1 : v < 2 ^ (v.log2 + 1) := Nat.lt_log2_self
  have h2 : 2 ^ (v.log2 + 1) ≤ 2 ^ (4 * (v.log2 / 4 + 1)) := Nat.pow_le_pow_right (by omega) (by omega)
  omega
theorem grp_lo (v : Nat) (h : 1 < grp v) : 16 ^ (grp v - 1) ≤ v := by
  rw [pow16]; unfold grp at h ⊢
  have hv : v ≠ 0 := by rintro rfl; revert h; decide
  have h1 : 2 ^ v.log2 ≤ v := Nat.log2_self_le hv
  have h2 : 2 ^ (4 * (v.log2 / 4 + 1 - 1)) ≤ 2 ^ v.log2 := Nat.pow_le_pow_right (by omega) (by omega)
  omega
theorem rdN_ok {d : List Nat} {p v : Nat} (hv : v < 18446744073709551616) (h : HasB d p (natB v)) : ∀ (m i : Nat), i < grp v → grp v - i = m → rdN d p (17 - i) i (v % 16 ^ i) (p + 5 * i) = (0, v, p + 5 * grp v) := by
  have hg := grp_le v hv
  have hlen : p + 5 * grp v ≤ 8 * d.length := by have := h.1; rw [natB_length] at this; exact this
  intro m
  induction m with
  | zero => intro i h1 h2; omega
  | succ m ih =>
    intro i h1 h2
    have hc := HasB.chunk h i h1
    have hlt : v / 16 ^ i % 16 < 16 := Nat.mod_lt _ (by omega)
    have hval : valAt d (p + 5 * i) 5 = v / 16 ^ i % 16 ||| (if decide (i + 1 < grp v) then 16 else 0) :=
      HasB.val (or_lt32 _ _ hlt) (by rw [bits5 _ _ hlt]; exact hc)
    have hor : ∀ (x : Nat) (b : Bool), x < 16 → (x ||| (if b then 16 else 0)) = x + (if b then 16 else 0) := by
      have : ∀ x, x < 16 → ∀ b : Bool, (x ||| (if b then 16 else 0)) = x + (if b then 16 else 0) := by decide
      intro x b hx; exact this x hx b
    rw [hor _ _ hlt] at hval
    have hstep : v % 16 ^ (i + 1) = v % 16 ^ i + v / 16 ^ i % 16 * 16 ^ i := by rw [Nat.mod_pow_succ, Nat.mul_comm]
    rw [show 17 - i = (17 - (i + 1)) + 1 by omega, rdN, if_neg (by omega)]
    by_cases hlast : i + 1 < grp v
    · have hd : decide (i + 1 < grp v) = true := decide_eq_true hlast
      rw [hd, if_pos rfl] at hval
      rw [if_neg (by omega), if_neg (by omega), hval, show (v / 16 ^ i % 16 + 16) % 16 = v / 16 ^ i % 16 by omega, ← hstep]
      exact ih (i + 1) hlast (by omega)
    · have hd : decide (i + 1 < grp v) = false := decide_eq_false hlast
      rw [hd, if_neg (by simp), Nat.add_zero] at hval
      have hnz : ¬ (i = 16 ∨ (valAt d (p + 5 * i) 5 = 0 ∧ 0 < i)) := by
        rintro (hx | ⟨hx, hi⟩)
        · omega
        · rw [hval] at hx
          have hlo := grp_lo v (by omega)
          have hhi := grp_hi v
          have e : grp v = i + 1 := by omega
          rw [e] at hlo hhi
          rw [Nat.add_sub_cancel] at hlo
          have hp : 0 < 16 ^ i := Nat.pow_pos (by omega)
          have hq : v / 16 ^ i < 16 := by rw [Nat.div_lt_iff_lt_mul hp, Nat.mul_comm, ← Nat.pow_succ]; exact hhi
          have hq1 : 1 ≤ v / 16 ^ i := by rw [Nat.le_div_iff_mul_le hp]; omega
          omega
      rw [if_neg hnz, if_pos (by omega), hval, Nat.mod_mod, ← hstep]
      have e : i + 1 = grp v := by omega
      rw [show p + 5 * i + 5 = p + 5 * (i + 1) by omega, e, Nat.mod_eq_of_lt (grp_hi v)]
theorem rdNat_ok {d : List Nat} {p v : Nat} (hv : v < 18446744073709551616) (h : HasB d p (natB v)) : rdNat d p = (0, v, p + 5 * grp v) := by
  have hg := grp_le v hv
  have := rdN_ok hv h (grp v) 0 (by omega) (by omega)
  unfold rdNat
  simpa [Nat.mod_one] using this

theorem take_pend {a b : List Int} {k s : Nat} (hk : k ≤ b.length) (hs : s ≤ k) (heq : ∀ j, k - s ≤ j → j < k → b.getD j 0 = bse a j) :
    (b.take (k - s) ++ (List.range s).map fun j => bse a ((b.take (k - s)).length + j)) = b.take k := by
  have hl : (b.take (k - s)).length = k - s := by rw [List.length_take]; omega
  rw [hl]
  apply List.ext_getElem
  · simp; omega
  intro j h1 h2
  have hj : j < k := by simp at h2; omega
  rw [List.getElem_append]
  split
  · simp
  · rename_i h3
    rw [hl] at h3
    have := heq j (by omega) hj
    simp only [List.getElem_map, List.getElem_range, List.getElem_take]
    rw [show k - s + (j - (b.take (k - s)).length) = j by omega, ← this]
    simp [List.getD, List.getElem?_eq_getElem (show j < b.length by omega)]

theorem bdL_ok {d : List Nat} {a b : List Int} (hb : i64r b) (hN : b.length < 18446744073709551616) : ∀ (r : List Int) (k s p f : Nat), k ≤ b.length → b.drop k = r → s ≤ k → (∀ j, k - s ≤ j → j < k → b.getD j 0 = bse a j) → b.length - (k - s) < f → HasB d p (encR a r k s) →
    ∃ q, bdL d a b.length f (b.take (k - s)) p = (0, b, q) := by
  intro r
  induction r with
  | nil =>
    intro k s p f hk hr hs heq hf h
    have hl : (b.drop k).length = 0 := by rw [hr]; rfl
    rw [List.length_drop] at hl
    obtain rfl : k = b.length := by omega
    have htl : (b.take (b.length - s)).length = b.length - s := by rw [List.length_take]; omega
    obtain ⟨f, rfl⟩ : ∃ f', f = f' + 1 := ⟨f - 1, by omega⟩
    unfold bdL
    by_cases h0 : 0 < s
    · rw [encR, if_pos h0] at h
      have hrd := rdNat_ok (by omega) h
      rw [if_neg (by omega), hrd]
      simp only
      rw [if_neg (by simp), if_neg (by omega), if_pos (by omega), take_pend hk hs heq, List.take_length]
      exact ⟨_, rfl⟩
    · obtain rfl : s = 0 := by omega
      rw [if_pos (by omega), Nat.sub_zero, List.take_length]
      exact ⟨_, rfl⟩
  | cons x r ih =>
    intro k s p f hk hr hs heq hf h
    have hl : (b.drop k).length = r.length + 1 := by rw [hr]; rfl
    rw [List.length_drop] at hl
    have hkl : k < b.length := by omega
    have hx? : b[k]? = some x := by
      have := List.getElem?_drop (xs := b) (i := k) (j := 0)
      rw [hr] at this
      simpa using this.symm
    have hx : b.getD k 0 = x := by simp [List.getD, hx?]
    have hxr := hb x (List.mem_of_getElem? hx?)
    have hr' : b.drop (k + 1) = r := by
      rw [← List.drop_drop, hr]; rfl
    have htl : (b.take (k - s)).length = k - s := by rw [List.length_take]; omega
    by_cases he : x = bse a k
    · rw [encR, if_pos he] at h
      have := ih (k + 1) (s + 1) p f (by omega) hr' (by omega) (fun j h1 h2 => by
        rcases Nat.lt_or_ge j k with h3 | h3
        · exact heq j (by omega) h3
        · obtain rfl : j = k := by omega
          rw [hx, he]) (by omega) h
      rwa [show k + 1 - (s + 1) = k - s by omega] at this
    · rw [encR, if_neg he] at h
      have h1 := rdNat_ok (by omega) h.left.left
      have h2 := h.left.right
      rw [natB_length] at h2
      have hwr := wrap64_rng (x - bse a k)
      have h3 := rdNat_ok (zig_lt _ hwr.1 hwr.2) h2
      have h4 := h.right
      rw [List.length_append, natB_length, natB_length] at h4
      obtain ⟨f, rfl⟩ : ∃ f', f = f' + 1 := ⟨f - 1, by omega⟩
      unfold bdL
      rw [if_neg (by omega), h1]
      simp only
      rw [if_neg (by simp), if_neg (by omega), if_neg (by omega), h3]
      simp only
      rw [if_neg (by simp), take_pend (by omega) hs heq, htl, show k - s + s = k by omega, zag_zig _ hwr.1 hwr.2]
      have hsum : wrap64 (bse a k + wrap64 (x - bse a k)) = x := by unfold wrap64; omega
      have htk : b.take k ++ [x] = b.take (k + 1 - 0) := by
        rw [Nat.sub_zero, List.take_add_one, hx?]; rfl
      rw [hsum, htk]
      refine ih (k + 1) 0 _ f (by omega) hr' (by omega) (fun j h1 h2 => by omega) (by omega) ?_
      rwa [show p + (5 * grp s + 5 * grp (zig (wrap64 (x - bse a k)))) = p + 5 * grp s + 5 * grp (zig (wrap64 (x - bse a k))) by omega] at h4

theorem back_ok {a b : List Int} (hb : i64r b) (hok : encOk a b) : backD a (packB (encB a b)) = (0, b) := by
  obtain ⟨h1, h2, h3⟩ := hok
  have hh := HasB.pack (encB a b)
  generalize hd : packB (encB a b) = d at hh ⊢
  rw [encB_R, encH] at hh
  have ha0 := sumI_rng a
  have hb0 := sumI_rng b
  have v1 := HasB.val (by omega) hh.left.left.left
  have hm := hh.left.left.right
  rw [bitsOf_length] at hm
  have v2 := HasB.val (by omega) hm
  have hn := hh.left.right
  rw [List.length_append, bitsOf_length, bitsOf_length] at hn
  have hr := rdNat_ok (by omega) hn
  have he := hh.right
  rw [List.length_append, List.length_append, bitsOf_length, bitsOf_length, natB_length] at he
  have hlen := hn.1
  obtain ⟨q, hbd⟩ := bdL_ok hb (by omega) b 0 0 _ (b.length + 1) (Nat.zero_le _) rfl (Nat.le_refl _) (fun j h1 h2 => by omega) (by omega) he
  have hbody : bodyD d a 128 = (0, b, q) := by
    unfold bodyD
    have hr2 : rdNat d 128 = (0, b.length, 128 + 5 * grp b.length) := hr
    rw [hr2]
    simp only
    rw [if_neg (by simp), if_neg (by omega)]
    have : b.take (0 - 0) = [] := rfl
    rw [this] at hbd
    rw [show 128 + 5 * grp b.length = 0 + (64 + 64 + 5 * grp b.length) by omega]; exact hbd
  unfold backD
  rw [if_neg (by omega), if_neg (by omega), v1, if_neg (by rw [Int.toNat_of_nonneg ha0.1]; simp), if_neg (by omega), hbody]
  simp only
  rw [if_neg (by simp), show (64 : Nat) = 0 + 64 from rfl]
  rw [v2, if_neg (by rw [Int.toNat_of_nonneg hb0.1]; simp), if_pos ⟨h3, h2, hd⟩]

/-- How many of a list differ from a base. -/
def ndR (a : List Int) : List Int → Nat → Nat
  | [], _ => 0
  | x :: r, k => (if x = bse a k then 0 else 1) + ndR a r (k + 1)
theorem ndR_set (a : List Int) (v : Int) : ∀ (r : List Int) (k i : Nat), ndR a (r.set i v) k ≤ ndR a r k + 1 := by
  intro r
  induction r with
  | nil => intro k i; simp [ndR]
  | cons x r ih =>
    intro k i
    cases i with
    | zero => rw [List.set_cons_zero, ndR, ndR]; split <;> split <;> omega
    | succ i => rw [List.set_cons_succ, ndR, ndR]; have := ih (k + 1) i; omega
theorem ndR_self (a : List Int) : ∀ (r : List Int) (k : Nat), a.drop k = r → ndR a r k = 0 := by
  intro r
  induction r with
  | nil => intro k _; rfl
  | cons x r ih =>
    intro k hr
    have hx? : a[k]? = some x := by
      have := List.getElem?_drop (xs := a) (i := k) (j := 0)
      rw [hr] at this
      simpa using this.symm
    have hx : x = bse a k := by simp [bse, List.getD, hx?]
    rw [ndR, if_pos hx, ih (k + 1) (by rw [← List.drop_drop, hr]; rfl)]
theorem grp3 (v : Nat) (h : v ≤ 1000) : grp v ≤ 3 := by
  rcases Nat.lt_or_ge 3 (grp v) with h1 | h1
  · have h2 := grp_lo v (by omega)
    have h3 : 16 ^ 3 ≤ 16 ^ (grp v - 1) := Nat.pow_le_pow_right (by omega) (by omega)
    omega
  · exact h1
theorem encR_len (a : List Int) : ∀ (r : List Int) (k s : Nat), s ≤ k → k + r.length ≤ 1000 → (encR a r k s).length ≤ 15 + 95 * ndR a r k := by
  intro r
  induction r with
  | nil =>
    intro k s hs hk
    unfold encR
    split
    · rw [natB_length]; have := grp3 s (by simp at hk; omega); simp [ndR]; omega
    · simp
  | cons x r ih =>
    intro k s hs hk
    rw [List.length_cons] at hk
    unfold encR ndR
    split
    · have := ih (k + 1) (s + 1) (by omega) (by omega); omega
    · have := ih (k + 1) 0 (by omega) (by omega)
      have h1 := grp3 s (by omega)
      have hwr := wrap64_rng (x - bse a k)
      have h2 := (grp_le _ (zig_lt _ hwr.1 hwr.2)).2
      rw [List.length_append, List.length_append, natB_length, natB_length]; omega
/-- A delta of few changes is short. -/
theorem small_ok {a b : List Int} {m : Nat} (hl : b.length = a.length) (ha : a.length ≤ 1000) (hm : ndR a b 0 ≤ m) (hm1 : m ≤ 100) : encOk a b ∧ (packB (encB a b)).length ≤ 28 + 26 * m := by
  have h1 : (encB a b).length ≤ 158 + 95 * m := by
    rw [encB_R, encH]
    have := encR_len a b 0 0 (Nat.le_refl _) (by omega)
    have := grp3 b.length (by omega)
    simp only [List.length_append, bitsOf_length, natB_length]; omega
  exact ⟨⟨by omega, by omega, by omega⟩, by rw [packB_length]; omega⟩
end Go.Proofs.Ytnidcmhfbkdioaa
