/-
  The contracts of bits.New, Left and Get. Conditions: at most 64 bits, sizes within the reach.
-/
import Derived.Test.YtlgcdcjfobfoiaaPd
namespace Go.Proofs.Ytlgcdcjfobfoiaa
open Go.RowKit
set_option maxRecDepth 100000

/-- Bit i of bytes. -/
def bitAt (l : List Nat) (i : Nat) : Bool := (l.getD (i / 8) 0).testBit (i % 8)
/-- The number of n bits from bit p on. -/
def valAt (l : List Nat) (p : Nat) : Nat → Nat
  | 0 => 0
  | n + 1 => valAt l p n + (bitAt l (p + n)).toNat * 2 ^ n
theorem valAt_lt (l : List Nat) (p n : Nat) : valAt l p n < 2 ^ n := by
  induction n with
  | zero => simp [valAt]
  | succ n ih =>
    have : (bitAt l (p + n)).toNat ≤ 1 := Bool.toNat_le _
    have h2 : (bitAt l (p + n)).toNat * 2 ^ n ≤ 1 * 2 ^ n := Nat.mul_le_mul_right _ this
    simp only [valAt]; rw [Nat.pow_succ]; omega
theorem valAt_or (l : List Nat) (p n : Nat) : valAt l p n ||| (bitAt l (p + n)).toNat * 2 ^ n = valAt l p (n + 1) := by
  have := valAt_lt l p n
  rw [Nat.or_comm, Nat.mul_comm, ← Nat.two_pow_add_eq_or_of_lt this, Nat.add_comm, Nat.mul_comm]; rfl

/-- Only block g, and what is new, may have turned. -/
theorem Gb.trans {a b c : World} {g : Nat} (h : a.grownBy b (some g)) (k : b.grownBy c (some g)) : a.grownBy c (some g) :=
  ⟨k.os.trans h.os, k.tape.trans h.tape, k.output.trans h.output, Nat.le_trans h.size k.size, fun i hi hne => (k.block i (Nat.lt_of_lt_of_le hi h.size) hne).trans (h.block i hi hne)⟩
theorem Gb.drewN {a w : World} {row : Option Nat} (h : a.grownBy w row) (n : Nat) : a.grownBy (w.drewN n) row := ⟨h.os, h.tape, h.output, h.size, h.block⟩
theorem Gb.drew {a w : World} {row : Option Nat} (h : a.grownBy w row) : a.grownBy w.drew row := ⟨h.os, h.tape, h.output, h.size, h.block⟩
theorem Gb.set_ {a w : World} {g : Nat} (h : a.grownBy w (some g)) (i : Nat) (u : Value) : a.grownBy (w.setCell ⟨g, i, none⟩ u) (some g) :=
  ⟨h.os, h.tape, h.output, by simpa [World.setCell] using h.size, fun i hi hne => (Below.heap_setCell w _ u i (by intro e; exact hne (by rw [e]))).trans (h.block i hi hne)⟩
theorem Gb.below {a w : World} {g B : Nat} (h : a.grownBy w (some g)) (hg : B ≤ g) (hB : B ≤ a.heap.size) : Below B a w :=
  ⟨h.os, h.tape, h.output, h.size, fun k hk => h.block k (by omega) (by intro e; injection e; omega)⟩

/-- A reader at block g of the bytes l, at bit p. -/
def RdrSt (w : World) (base g : Nat) (l : List Nat) (p : Nat) : Prop :=
  ∃ A c, Bk w g 144 #[.slice A l.length c, .int .i64 p] ∧ w.ownsRow base 5 1 (.slice A l.length c) l.length (bytesV l) ∧ base ≤ w.heap.size

theorem RdrSt.grow {w w' : World} {base g g' : Nat} {l : List Nat} {p : Nat} (h : RdrSt w base g l p) (hb : w.grownBy w' (some g')) (hne : g ≠ g') (ht : ∃ t cs, Bk w g' t cs ∧ t ≠ 5) : RdrSt w' base g l p := by
  obtain ⟨A, c, h1, h2, h3⟩ := h
  obtain ⟨t, cs, hk, h5⟩ := ht
  exact ⟨A, c, h1.grown hb (by simp [hne]), h2.kept hb (.inr (own_ne h2 hk (Ne.symm h5))), by have := hb.size; omega⟩

def NewPost (w : World) (l : List Nat) (e : Ending) (w' : World) : Prop := ∃ g, e = .returned (.pointer (some ⟨g, 0, none⟩)) ∧ w.heap.size ≤ g ∧ RdrSt w' w.heap.size g l 0 ∧ Below w.heap.size w w'

set_option maxHeartbeats 800000 in
theorem new_any (A : Option Addr) (n c B : Nat) (l : List Nat) (w : World) (hn : n = l.length) (hr : Rd w B 1 A n (bytesV l)) (hs : n ≤ 140737488355328) :
    Calls Try.prog 72 #[.slice A n c] w (NewPost w l) := by
  obtain ⟨i0, hi0, hz0, hz1, hz2⟩ := info_parts T.info5
  go_enter Try.func72, Try.ntmps72
  go_wp2_with
    (at_builtin
     go_must (refine wpList_append_rd _ rfl (.const (.slice none 0 0)) (.tmp 3) _ rfl w.heap.size 5 i0 (.int .u8 0) 1 1 Try.underlying30 hi0 hz0 hz1 hz2 rfl (by decide) (.slice none 0 0) 0 [] rfl (World.ownsRow_nil _ _ _ _) B A n c (bytesV l) rfl hr (bytesV_one _) ?c2 ?c3 (Nat.le_refl _) ?_)
     case c2 => unfold maxLen; omega
     case c3 => omega
     intro A' c' w1 hown1 hg1 hat1)
  go_ret
  simp only [Nat.zero_add, List.nil_append] at hown1
  have hb1 : Below w.heap.size w w1 := (Below.refl _ _).grown hg1 (Nat.le_refl _) (by simp [Value.ownBlock])
  have hsz := hb1.size
  subst hn
  refine ⟨w1.heap.size, rfl, hsz, ⟨A', c', ?_, hown1.alloc _, by simp; omega⟩, hb1.alloc hsz _⟩
  have := Bk.new w1 144 #[.slice A' l.length c', .int .i64 0]
  simpa using this

set_option maxHeartbeats 800000 in
theorem left_any (g base : Nat) (l : List Nat) (p : Nat) (w : World) (hst : RdrSt w base g l p) (hp : p ≤ 8 * l.length) (hs : l.length ≤ 140737488355328) :
    Calls Try.prog 99 #[.pointer (some ⟨g, 0, none⟩)] w fun e w' => e = .returned (.int .i64 (8 * l.length - p)) ∧ ∃ n, w.drewN n = w' := by
  obtain ⟨A, c, hk, hown, hb⟩ := hst
  have c0 : w.cell? ⟨g, 0, none⟩ = some (.slice A l.length c) := hk.cell 0
  have c1 : w.cell? ⟨g, 1, none⟩ = some (.int .i64 p) := hk.cell 1
  clear hk hown
  go_enter Try.func99, Try.ntmps99
  go_wp2_with fail
  go_quiet (fail)
  go_wp2_with fail
  go_ret
  exact ⟨rfl, _, rfl⟩

def GetPost (w : World) (base g : Nat) (l : List Nat) (p n : Nat) (e : Ending) (w' : World) : Prop :=
  (p + n ≤ 8 * l.length ∧ e = .returned (.tuple #[.int .u64 (valAt l p n), .int .i64 0]) ∧ RdrSt w' base g l (p + n) ∧ w.grownBy w' (some g) ∧ w'.heap.size = w.heap.size) ∨
  (¬ p + n ≤ 8 * l.length ∧ e = .returned (.tuple #[.int .u64 0, .int .i64 14]) ∧ RdrSt w' base g l p ∧ w.grownBy w' (some g) ∧ w'.heap.size = w.heap.size)

theorem RdrSt.drewN {w : World} {base g : Nat} {l : List Nat} {p : Nat} (h : RdrSt w base g l p) (n : Nat) : RdrSt (w.drewN n) base g l p := h
theorem RdrSt.drew {w : World} {base g : Nat} {l : List Nat} {p : Nat} (h : RdrSt w base g l p) : RdrSt w.drew base g l p := h

theorem or_round (l : List Nat) (p k x : Nat) (hx : x = l.getD ((p + k) / 8) 0) (hx2 : x < 256) (hk : k < 64) :
    Go.bits .or .u64 ((valAt l p k : Nat) : Int) (IntKind.u64.wrap (IntKind.u64.wrap (Go.bits .and .u8 ((x : Int) / 2 ^ ((p + k) % 8)) 1) * 2 ^ k)) = ((valAt l p (k + 1) : Nat) : Int) := by
  have h1 : ((x : Int) / 2 ^ ((p + k) % 8)) = ((x / 2 ^ ((p + k) % 8) : Nat) : Int) := by norm_cast
  have h2 : x / 2 ^ ((p + k) % 8) < 256 := Nat.lt_of_le_of_lt (Nat.div_le_self _ _) hx2
  have h3 : Go.bits .and .u8 ((x : Int) / 2 ^ ((p + k) % 8)) 1 = ((bitAt l (p + k)).toNat : Int) := by
    rw [h1, show (1 : Int) = ((1 : Nat) : Int) from rfl, u8_and_nat _ _ h2 (by omega), nat_mask1]
    congr 1
    unfold bitAt
    rw [← hx, Nat.testBit_eq_decide_div_mod_eq]
    rcases Nat.mod_two_eq_zero_or_one (x / 2 ^ ((p + k) % 8)) with h | h <;> simp [h]
  have hbit : (bitAt l (p + k)).toNat ≤ 1 := Bool.toNat_le _
  have hpow : (bitAt l (p + k)).toNat * 2 ^ k ≤ 1 * 2 ^ k := Nat.mul_le_mul_right _ hbit
  have hp63 : 2 ^ k ≤ 2 ^ 63 := Nat.pow_le_pow_right (by omega) (by omega)
  have hv := valAt_lt l p k
  have h64 : (2 : Nat) ^ 63 = 9223372036854775808 := by decide
  rw [h3, IntWalk.u64_in ((bitAt l (p + k)).toNat : Int) (by omega)]
  have e2 : ((bitAt l (p + k)).toNat : Int) * 2 ^ k = (((bitAt l (p + k)).toNat * 2 ^ k : Nat) : Int) := by norm_cast
  rw [e2, IntWalk.u64_in _ (by omega), u64_or_nat _ _ (by omega) (by omega), valAt_or]

theorem ret_pt {k : IntKind} {a b : Int} (h : a = b) : Value.int k a = .int k b := by rw [h]

set_option maxHeartbeats 1600000 in
theorem get_any (g base : Nat) (l : List Nat) (p n : Nat) (w : World) (hst : RdrSt w base g l p) (hp : p ≤ 8 * l.length) (hn : n ≤ 64) (hs : l.length ≤ 140737488355328) (hb : ∀ b ∈ l, b < 256) :
    Calls Try.prog 89 #[.pointer (some ⟨g, 0, none⟩), .int .i64 n] w (GetPost w base g l p n) := by
  have HL := Lib.hid (left_any g base l p w hst hp hs)
  by_cases hfit : p + n ≤ 8 * l.length
  · have hlt : ¬ (8 * (l.length : Int) - p < n) := by omega
    have HFit := Lib.hid hfit
    have HB := Lib.hid hb
    have hn64 : (n : Int) ≤ 64 := by omega
    clear hfit hb
    go_enter Try.func89, Try.ntmps89
    go_wp2_with fail
    refine HL.out.mono ?_
    rintro e w1 ⟨rfl, nq, rfl⟩
    go_wp2_with fail
    have hst1 := hst.drewN nq
    have hg1 : w.grownBy (w.drewN nq) (some g) := Gb.drewN (World.grownBy.refl w _) nq
    have hz1 : (w.drewN nq).heap.size = w.heap.size := rfl
    have HZ1 := Lib.hid hz1
    clear hz1
    generalize w.drewN nq = w1 at *
    go_loopw [6, 19] (fun v i wr => ∃ k : Nat, k ≤ n ∧ v = .int .u64 (valAt l p k) ∧ i = .int .i64 k ∧ RdrSt wr base g l (p + k) ∧ w.grownBy wr (some g) ∧ wr.heap.size = w.heap.size) (fun _ i _ => n - (intOf i).toNat)
    case atStart => exact ⟨0, Nat.zero_le _, rfl, rfl, hst1, hg1, HZ1.out⟩
    case round =>
      obtain ⟨k, hk, rfl, rfl, ⟨A, c, hbk, hown, hbase⟩, hgr, hzr⟩ := hrel
      have HZ := Lib.hid hzr
      clear hzr
      by_cases hlt2 : k < n
      · have c0 : wr.cell? ⟨g, 0, none⟩ = some (.slice A l.length c) := hbk.cell 0
        have c1 : wr.cell? ⟨g, 1, none⟩ = some (.int .i64 ((p : Int) + k)) := (hbk.cell 1).trans (by simp)
        have f1 := hbk.frozen 1
        have hfit := HFit.out
        have hj : (p + k) / 8 < l.length := by omega
        obtain ⟨gb, cb, hv, _, _⟩ := hown.form (by omega)
        have hA : A = some ⟨gb, 0, none⟩ := by injection hv
        subst hA
        obtain ⟨x, hx⟩ : ∃ x, x = l.getD ((p + k) / 8) 0 := ⟨_, rfl⟩
        have q2 : wr.cell? ⟨gb, (p + k) / 8, none⟩ = some (.int .u8 x) := by
          rw [hown.cellAt _ (by omega), bytesV_get _ _ hj, hx]
        have hx256 : x < 256 := by
          rw [hx, List.getD_eq_getElem?_getD, List.getElem?_eq_getElem hj]
          exact HB.out _ (List.getElem_mem _)
        have HX := Lib.hid hx
        have hne1 : g ≠ gb := Ne.symm (fun e1 => own_ne hown hbk (by decide) (by simp [Value.ownBlock, e1]))
        have hb1 : ((p : Int) + k) / 8 < (l.length : Int) := by omega
        have hb2 : (((p : Int) + k) / 8).toNat = (p + k) / 8 := by omega
        have hb0 : 0 ≤ ((p : Int) + k) / 8 := by omega
        have hb3 : (((p : Int) + k) % 8).toNat = (p + k) % 8 := by omega
        clear hx hv hfit
        go_wp2_with fail
        go_quiet (fail)
        go_wp2_with fail
        go_roundw
        case measure => simp [intOf]; omega
        case rel =>
          refine ⟨k + 1, by omega, ret_pt (or_round l p k x HX.out hx256 (by omega)), by go_num, ?_, ?_, ?_⟩
          · refine ⟨some ⟨gb, 0, none⟩, c, ?_, ?_, ?_⟩
            · have h1 := hbk.set_ 1 (.int .i64 ((p : Int) + k + 1))
              have e1 : (((p + (k + 1) : Nat)) : Int) = (p : Int) + k + 1 := by omega
              rw [e1]
              exact h1
            · exact ownsRow_setCell_other hown (a := ⟨g, 1, none⟩) (own_ne hown hbk (by decide)) _
            · show base ≤ (World.setCell _ _ _).heap.size; simpa [World.setCell] using hbase
          · exact Gb.set_ (Gb.drewN hgr _) 1 _
          · show (World.setCell _ _ _).heap.size = _; rw [← HZ.out]; simp [World.setCell]
      · go_wp2
        go_ret2
        obtain rfl : k = n := by omega
        exact .inl ⟨HFit.out, rfl, ⟨A, c, hbk, hown, hbase⟩, hgr, HZ.out⟩
  · have hlt : (8 * (l.length : Int) - p < n) := by omega
    have HFit := Lib.hid hfit
    have hn64 : (n : Int) ≤ 64 := by omega
    clear hfit hb
    go_enter Try.func89, Try.ntmps89
    go_wp2_with fail
    refine HL.out.mono ?_
    rintro e w1 ⟨rfl, nq, rfl⟩
    go_wp2_with fail
    go_ret2
    exact .inr ⟨HFit.out, rfl, hst.drewN nq, Gb.drewN (World.grownBy.refl w _) nq, rfl⟩
end Go.Proofs.Ytlgcdcjfobfoiaa
