/-
  Writing bits (Put, Bytes), digests of lists of numbers; codes of numbers; delta.Ints. Conditions: numbers that fit their kinds, what is read can be read, room in the writer.
-/
import Derived.Test.YtnidcmhfbkdioaaWa
import Derived.Shelf.Bytes.SlEqualAll
namespace Go.Proofs.Ytnidcmhfbkdioaa
open Go.RowKit
set_option maxRecDepth 100000

/-! ### Ua -/
/-- The n lowest bits of v, the lowest one first. -/
def bitsOf (v n : Nat) : List Bool := (List.range n).map v.testBit
theorem bitsOf_length (v n : Nat) : (bitsOf v n).length = n := by simp [bitsOf]
theorem bitsOf_succ (v n : Nat) : bitsOf v (n + 1) = bitsOf v n ++ [v.testBit n] := by simp [bitsOf, List.range_succ]
theorem bitsOf_zero (v : Nat) : bitsOf v 0 = [] := rfl

/-- One bit more behind m bits. -/
def pushB (bs : List Nat) (m : Nat) (x : Bool) : List Nat :=
  if m % 8 = 0 then bs ++ [x.toNat] else bs.set (m / 8) (bs.getD (m / 8) 0 + x.toNat * 2 ^ (m % 8))
/-- The bytes of bits. -/
def packB (l : List Bool) : List Nat := (l.foldl (fun (p : List Nat × Nat) x => (pushB p.1 p.2 x, p.2 + 1)) ([], 0)).1
theorem packB_snd (l : List Bool) (p : List Nat × Nat) : (l.foldl (fun (p : List Nat × Nat) x => (pushB p.1 p.2 x, p.2 + 1)) p).2 = p.2 + l.length := by
  induction l generalizing p with
  | nil => rfl
  | cons a l ih => simp only [List.foldl_cons, ih, List.length_cons]; omega
theorem packB_nil : packB [] = [] := rfl
theorem packB_snoc (l : List Bool) (x : Bool) : packB (l ++ [x]) = pushB (packB l) l.length x := by
  unfold packB
  rw [List.foldl_append]
  simp only [List.foldl_cons, List.foldl_nil]
  rw [packB_snd]; simp

theorem snoc_ind {α : Type} {p : List α → Prop} (h0 : p []) (hs : ∀ l x, p l → p (l ++ [x])) (l : List α) : p l := by
  rw [← List.reverse_reverse l]
  induction l.reverse with
  | nil => exact h0
  | cons a t ih => rw [List.reverse_cons]; exact hs _ _ ih

theorem packB_length (l : List Bool) : (packB l).length = (l.length + 7) / 8 := by
  induction l using snoc_ind with
  | h0 => rfl
  | hs l x ih =>
    rw [packB_snoc, pushB, List.length_append, List.length_singleton]
    split
    · rw [List.length_append, ih, List.length_singleton]; omega
    · rw [List.length_set, ih]; omega

/-- All bytes are below 256; the last one holds no bit beyond those that were pushed. -/
theorem packB_lt (l : List Bool) : (∀ b ∈ packB l, b < 256) ∧ (l.length % 8 ≠ 0 → (packB l).getD (l.length / 8) 0 < 2 ^ (l.length % 8)) := by
  induction l using snoc_ind with
  | h0 => exact ⟨by simp [packB_nil], by simp⟩
  | hs l x ih =>
    obtain ⟨ih1, ih2⟩ := ih
    have hl := packB_length l
    rw [packB_snoc, pushB, List.length_append, List.length_singleton]
    have hx : x.toNat ≤ 1 := Bool.toNat_le x
    by_cases h : l.length % 8 = 0
    · rw [if_pos h]
      refine ⟨fun b hb => ?_, fun _ => ?_⟩
      · rcases List.mem_append.1 hb with hb | hb
        · exact ih1 b hb
        · simp at hb; omega
      · have h8 : (l.length + 1) / 8 = (packB l).length := by omega
        have h1 : (l.length + 1) % 8 = 1 := by omega
        rw [h8, h1]; simp [List.getD]; omega
    · rw [if_neg h]
      have hlt : l.length / 8 < (packB l).length := by omega
      have hold := ih2 h
      have hnew : (packB l).getD (l.length / 8) 0 + x.toNat * 2 ^ (l.length % 8) < 2 ^ (l.length % 8 + 1) := by
        rw [Nat.pow_succ]
        have : x.toNat * 2 ^ (l.length % 8) ≤ 1 * 2 ^ (l.length % 8) := Nat.mul_le_mul_right _ hx
        omega
      have h256 : 2 ^ (l.length % 8 + 1) ≤ 2 ^ 8 := Nat.pow_le_pow_right (by omega) (by omega)
      refine ⟨fun b hb => ?_, fun h2 => ?_⟩
      · rcases List.mem_or_eq_of_mem_set hb with hb | rfl
        · exact ih1 b hb
        · omega
      · have h8 : (l.length + 1) / 8 = l.length / 8 := by omega
        have h1 : (l.length + 1) % 8 = l.length % 8 + 1 := by omega
        rw [h8, h1]
        rw [List.getD_eq_getElem?_getD, List.getElem?_set_self hlt]
        exact hnew

/-- Bit i of the bytes is bit i of the list. -/
theorem packB_bit (l : List Bool) : ∀ i, i < l.length → ((packB l).getD (i / 8) 0).testBit (i % 8) = l.getD i false := by
  induction l using snoc_ind with
  | h0 => intro i hi; simp at hi
  | hs l x ih =>
    intro i hi
    rw [List.length_append, List.length_singleton] at hi
    have hl := packB_length l
    rw [packB_snoc, pushB]
    by_cases h : l.length % 8 = 0
    · rw [if_pos h]
      by_cases hi' : i < l.length
      · rw [List.getD_eq_getElem?_getD, List.getElem?_append_left (by omega), ← List.getD_eq_getElem?_getD, ih i hi']
        rw [List.getD_eq_getElem?_getD, List.getD_eq_getElem?_getD, List.getElem?_append_left hi']
      · obtain rfl : i = l.length := by omega
        rw [List.getD_eq_getElem?_getD, List.getElem?_append_right (by omega), List.getD_eq_getElem?_getD, List.getElem?_append_right (Nat.le_refl _)]
        rw [show l.length / 8 - (packB l).length = 0 by omega, h]
        cases x <;> simp
    · rw [if_neg h]
      have hlt : l.length / 8 < (packB l).length := by omega
      have hold := (packB_lt l).2 h
      by_cases hi' : i < l.length
      · have hr : (l ++ [x]).getD i false = l.getD i false := by
          rw [List.getD_eq_getElem?_getD, List.getD_eq_getElem?_getD, List.getElem?_append_left hi']
        rw [hr, ← ih i hi']
        by_cases h8 : i / 8 = l.length / 8
        · rw [h8, List.getD_eq_getElem?_getD, List.getElem?_set_self hlt, Option.getD_some]
          have hm : i % 8 < l.length % 8 := by omega
          rw [Nat.add_comm, Nat.mul_comm, Nat.testBit_two_pow_mul_add _ hold]
          simp [hm]
        · rw [List.getD_eq_getElem?_getD, List.getElem?_set_ne (by omega), ← List.getD_eq_getElem?_getD]
      · obtain rfl : i = l.length := by omega
        rw [List.getD_eq_getElem?_getD, List.getElem?_set_self hlt, Option.getD_some]
        rw [Nat.add_comm, Nat.mul_comm, Nat.testBit_two_pow_mul_add _ hold]
        cases x <;> simp [List.getD_eq_getElem?_getD]

theorem packB_or (l : List Bool) (x : Bool) (h : l.length % 8 ≠ 0) : (packB l).getD (l.length / 8) 0 ||| (x.toNat <<< (l.length % 8)) = (packB l).getD (l.length / 8) 0 + x.toNat * 2 ^ (l.length % 8) := by
  have := (packB_lt l).2 h
  rw [Nat.or_comm, Nat.shiftLeft_eq, Nat.mul_comm, ← Nat.two_pow_add_eq_or_of_lt this, Nat.add_comm]

def bytesV (l : List Nat) : List Value := l.map fun (b : Nat) => Value.int .u8 (b : Int)
theorem bytesV_length (l : List Nat) : (bytesV l).length = l.length := by simp [bytesV]
theorem bytesV_get (l : List Nat) (j : Nat) (h : j < l.length) : (bytesV l)[j]? = some (.int .u8 ((l.getD j 0 : Nat) : Int)) := by
  simp [bytesV, h, List.getD]
theorem bytesV_set (l : List Nat) (j x : Nat) : (bytesV l).set j (.int .u8 (x : Int)) = bytesV (l.set j x) := by simp [bytesV, List.map_set]
theorem bytesV_append (l k : List Nat) : bytesV (l ++ k) = bytesV l ++ bytesV k := by simp [bytesV]
theorem bytesV_one (l : List Nat) : ∀ u ∈ bytesV l, u.oneCell' = true := by
  intro u hu
  simp only [bytesV, List.mem_map] at hu
  obtain ⟨b, _, rfl⟩ := hu
  rfl

/-- A writer at block g: its bytes are those of 'bits'. -/
def WrSt (w : World) (base g : Nat) (bits : List Bool) : Prop :=
  ∃ v, Bk w g 284 #[v, .int .i64 bits.length] ∧ w.ownsRow base 5 1 v (packB bits).length (bytesV (packB bits)) ∧ base ≤ w.heap.size

theorem T.info5 : (Try.prog.info? 5).map (fun i => (i.zero, i.size, i.bytes)) = some (some (.int .u8 0), 1, 1) := by kernel_rfl

theorem and1_u64 (v k : Nat) (hv : v < 18446744073709551616) : Go.bits .and .u64 ((v : Int) / 2 ^ k) 1 = ((v.testBit k).toNat : Int) := by
  have h1 : ((v : Int) / 2 ^ k) = ((v / 2 ^ k : Nat) : Int) := by norm_cast
  have h2 : v / 2 ^ k < 18446744073709551616 := Nat.lt_of_le_of_lt (Nat.div_le_self _ _) hv
  rw [h1, show (1 : Int) = ((1 : Nat) : Int) from rfl, u64_and_nat _ _ h2 (by omega), nat_mask1]
  congr 1
  rw [Nat.testBit_eq_decide_div_mod_eq]
  rcases Nat.mod_two_eq_zero_or_one (v / 2 ^ k) with h | h <;> simp [h]

/-- What the bytes become by one bit more. -/
def grownB (bits : List Bool) : List Nat := if bits.length % 8 = 0 then packB bits ++ [0] else packB bits
theorem grownB_length (bits : List Bool) : (grownB bits).length = bits.length / 8 + 1 := by
  have := packB_length bits
  unfold grownB
  split
  · rw [List.length_append, List.length_singleton]; omega
  · omega
theorem grownB_last (bits : List Bool) : (grownB bits).getD (bits.length / 8) 0 < 2 ^ (bits.length % 8) := by
  have hl := packB_length bits
  unfold grownB
  split
  · rw [List.getD_eq_getElem?_getD, List.getElem?_append_right (by omega), show bits.length / 8 - (packB bits).length = 0 by omega]
    simp; exact Nat.two_pow_pos _
  · exact (packB_lt bits).2 ‹_›
theorem packB_push (bits : List Bool) (x : Bool) :
    packB (bits ++ [x]) = (grownB bits).set (bits.length / 8) ((grownB bits).getD (bits.length / 8) 0 ||| (x.toNat * 2 ^ (bits.length % 8))) := by
  have hl := packB_length bits
  have hlast := grownB_last bits
  have hor : (grownB bits).getD (bits.length / 8) 0 ||| (x.toNat * 2 ^ (bits.length % 8)) = (grownB bits).getD (bits.length / 8) 0 + x.toNat * 2 ^ (bits.length % 8) := by
    rw [Nat.or_comm, Nat.mul_comm, ← Nat.two_pow_add_eq_or_of_lt hlast, Nat.add_comm]
  rw [hor, packB_snoc, pushB]
  unfold grownB
  by_cases h : bits.length % 8 = 0
  · rw [if_pos h, if_pos h]
    have h8 : bits.length / 8 = (packB bits).length := by omega
    rw [h8, h]
    simp [List.getD]
  · rw [if_neg h, if_neg h]

theorem or8 (old x s : Nat) (ho : old < 2 ^ s) (hs : s < 8) (hx : x ≤ 1) : Go.bits .or .u8 (old : Int) ((x : Int) % 256 * 2 ^ s % 256) = ((old ||| (x * 2 ^ s) : Nat) : Int) := by
  have hp : 2 ^ s ≤ 2 ^ 7 := Nat.pow_le_pow_right (by omega) (by omega)
  have h1 : x * 2 ^ s ≤ 1 * 2 ^ s := Nat.mul_le_mul_right _ hx
  have h2 : ((x : Int) % 256 * 2 ^ s % 256) = ((x * 2 ^ s : Nat) : Int) := by
    have e1 : (x : Int) % 256 = x := by omega
    rw [e1]
    have e2 : (x : Int) * 2 ^ s = ((x * 2 ^ s : Nat) : Int) := by norm_cast
    rw [e2]; omega
  rw [h2, u8_or_nat _ _ (by omega) (by omega)]

/-- What a round of Put leaves. -/
theorem put_round {W : World} {base g gb cb nb v k old : Nat} {bits : List Bool} {mI : Int} (hv : v < 18446744073709551616) (hmI : mI = bits.length)
    (hB : Bk W g 284 #[.slice (some ⟨gb, 0, none⟩) nb cb, .int .i64 mI]) (hO : W.ownsRow base 5 1 (.slice (some ⟨gb, 0, none⟩) nb cb) nb (bytesV (grownB bits)))
    (hold : old = (grownB bits).getD (bits.length / 8) 0) (hb : base ≤ W.heap.size) :
    WrSt ((W.setCell ⟨gb, bits.length / 8, none⟩ (.int .u8 (Go.bits .or .u8 (old : Int) (Go.bits .and .u64 ((v : Int) / 2 ^ k) 1 % 256 * 2 ^ (bits.length % 8) % 256)))).setCell ⟨g, 1, none⟩ (.int .i64 (mI + 1))).drew base g (bits ++ [v.testBit k]) := by
  have hne : gb ≠ g := fun e1 => own_ne hO hB (by decide) (by simp [Value.ownBlock, e1])
  have hlen := hO.1
  rw [bytesV_length, grownB_length] at hlen
  have hnb : nb = bits.length / 8 + 1 := by omega
  rw [and1_u64 v k hv, or8 _ _ _ (by rw [hold]; exact grownB_last bits) (by omega) (Bool.toNat_le _)]
  have h1 := (hO.stored (bits.length / 8) (.int .u8 ((old ||| ((v.testBit k).toNat * 2 ^ (bits.length % 8)) : Nat) : Int))).1
  rw [bytesV_set, hold, ← packB_push] at h1
  have hB1 := hB.far (p := ⟨gb, bits.length / 8, none⟩) (Ne.symm hne) (.int .u8 ((old ||| ((v.testBit k).toNat * 2 ^ (bits.length % 8)) : Nat) : Int))
  have hB2 := hB1.set_ 1 (.int .i64 (mI + 1))
  rw [hold] at hB1 hB2
  have h2 := ownsRow_setCell_other h1 (a := ⟨g, 1, none⟩) (own_ne h1 hB1 (by decide)) (.int .i64 (mI + 1))
  rw [hold]
  have hl1 : (packB (bits ++ [v.testBit k])).length = nb := by rw [packB_length, List.length_append, List.length_singleton]; omega
  refine ⟨_, ?_, by rw [hl1]; exact h2, by show base ≤ (World.setCell _ _ _).heap.size; simpa [World.setCell] using hb⟩
  rw [List.length_append, List.length_singleton]
  have e1 : (((bits.length + 1 : Nat)) : Int) = mI + 1 := by omega
  rw [e1]
  exact hB2
set_option maxRecDepth 100000 in
set_option maxHeartbeats 1600000 in
theorem put_any (g base v n : Nat) (bits : List Bool) (w : World) (hv : v < 2 ^ n) (hn : n < 64) (hs : bits.length + n ≤ 524288) (hst : WrSt w base g bits) :
    Calls Try.prog 180 #[.pointer (some ⟨g, 0, none⟩), .int .u64 v, .int .i64 n] w fun e w' => e = .returned (.int .i64 0) ∧ WrSt w' base g (bits ++ bitsOf v n) ∧ Kp base 5 g w w' := by
  obtain ⟨i0, hi0, hz0, hz1, hz2⟩ := info_parts T.info5
  have c1 : w.cell? ⟨g, 1, none⟩ = some (.int .i64 bits.length) := by
    obtain ⟨bv, hbk, hown, hbase⟩ := hst
    exact hbk.cell 1
  have h3 : ((v : Int) / 2 ^ n != 0) = false := by
    have : v / 2 ^ n = 0 := Nat.div_eq_of_lt hv
    simp; exact_mod_cast this
  have h1 : (0:Int) ≤ (n : Int) := by omega
  have h2 : (n : Int) < 64 := by omega
  have HV := Lib.hid (Nat.lt_of_lt_of_le hv (Nat.pow_le_pow_right (by omega) (Nat.le_of_lt hn)) : v < 2 ^ 64)
  clear hv
  go_enter Try.func180, Try.ntmps180
  go_wp2_with fail
  clear h3 c1
  go_loopw [32] (fun i wr => ∃ k : Nat, k ≤ n ∧ i = .int .i64 k ∧ WrSt wr base g (bits ++ bitsOf v k) ∧ Kp base 5 g w wr) (fun i _ => n - (intOf i).toNat)
  case atStart => exact ⟨0, Nat.zero_le _, rfl, by simpa [bitsOf] using hst, Kp.refl⟩
  case round =>
    obtain ⟨k, hk, rfl, ⟨bv, hbk, hown, hbase⟩, hkp⟩ := hrel
    by_cases hlt : k < n
    · have hm : (bits ++ bitsOf v k).length = bits.length + k := by simp [bitsOf]
      have hnb := packB_length (bits ++ bitsOf v k)
      have hmm : bits.length + k < 524288 := by omega
      rw [hm] at hnb
      have HM := Lib.hid hm
      have HS := Lib.hid (bitsOf_succ v k)
      rw [hm] at hbk
      clear hm
      have c0 : wr.cell? ⟨g, 0, none⟩ = some bv := hbk.cell 0
      have c1 : wr.cell? ⟨g, 1, none⟩ = some (.int .i64 ((bits.length : Int) + k)) := (hbk.cell 1).trans (by simp)
      by_cases h8 : (bits.length + k) % 8 = 0
      · have t8 : (((bits.length : Int) + k) % 8 == 0) = true := by simp; omega
        have H8 := Lib.hid h8
        have HN := Lib.hid hnb
        have hnbb : (packB (bits ++ bitsOf v k)).length ≤ 65536 := by omega
        have hb1 : ((bits.length : Int) + k) / 8 < ((packB (bits ++ bitsOf v k)).length : Int) + 1 := by omega
        have hb2 : (((bits.length : Int) + k) / 8).toNat = (bits.length + k) / 8 := by omega
        have hb0 : 0 ≤ ((bits.length : Int) + k) / 8 := by omega
        clear h8 hnb
        go_wp2_with (first
          | (at_builtin
             go_must (refine wpList_append_one _ rfl (.tmp 45) (.tmp 46) _ rfl base 5 i0 (.int .u8 0) 1 1 Try.underlying81 hi0 hz0 hz1 hz2 rfl (by decide) bv _ _ rfl (hown.alloc _) wr.heap.size 1 5 #[.int .u8 0] rfl (Bk.new _ _ _) rfl ?c1 _ rfl ?c2 ?c3 ?c4 ?_)
             case c1 => simp [Value.oneCell']
             case c2 => unfold maxLen; omega
             case c3 => omega
             case c4 => simp; omega
             intro gb cb w1 hown1 hg1 hat1
             have hbk1 := (hbk.alloc (.cells #[.int .u8 0] 5)).grown hg1 (fun e1 => own_ne (hown.alloc _) (hbk.alloc (.cells #[.int .u8 0] 5)) (by decide) e1.symm)
             have c0' : w1.cell? ⟨g, 0, none⟩ = some bv := hbk1.cell 0
             have f0' := hbk1.frozen 0))
        have hB := hbk1.set_ 0 (Value.slice (some { block := gb, off := 0 }) ((packB (bits ++ bitsOf v k)).length + 1) cb)
        have hO := ownsRow_setCell_other hown1 (a := ⟨g, 0, none⟩) (own_ne hown1 hbk1 (by decide)) (Value.slice (some { block := gb, off := 0 }) ((packB (bits ++ bitsOf v k)).length + 1) cb)
        have hK := ((hkp.alloc (.cells #[.int .u8 0] 5)).grown (hown.alloc _) hg1).setG 0 (Value.slice (some { block := gb, off := 0 }) ((packB (bits ++ bitsOf v k)).length + 1) cb)
        have hBs : base ≤ w1.heap.size := by have := hg1.size; simp at this; omega
        clear hown1 hg1 hbk1 c0' f0' hat1 c0 c1 hkp hown hbk t8
        generalize hW : w1.setCell { block := g, off := 0 } (Value.slice (some { block := gb, off := 0 }) ((packB (bits ++ bitsOf v k)).length + 1) cb) = W at *
        have hBs' : base ≤ W.heap.size := by rw [← hW]; simpa [World.setCell] using hBs
        clear hW hBs
        have hG : bytesV (packB (bits ++ bitsOf v k)) ++ [Value.int IntKind.u8 0] = bytesV (grownB (bits ++ bitsOf v k)) := by
          unfold grownB
          rw [HM.out, if_pos H8.out, bytesV_append]; rfl
        have hO' : W.ownsRow base 5 1 (Value.slice (some { block := gb, off := 0 }) ((packB (bits ++ bitsOf v k)).length + 1) cb) ((packB (bits ++ bitsOf v k)).length + 1) (bytesV (grownB (bits ++ bitsOf v k))) := by rw [← hG]; exact hO
        clear hG hO
        have q0 : W.cell? ⟨g, 0, none⟩ = some (Value.slice (some { block := gb, off := 0 }) ((packB (bits ++ bitsOf v k)).length + 1) cb) := hB.cell 0
        have q1 : W.cell? ⟨g, 1, none⟩ = some (.int .i64 ((bits.length : Int) + k)) := (hB.cell 1).trans (by simp)
        obtain ⟨old, hold⟩ : ∃ o, o = (grownB (bits ++ bitsOf v k)).getD ((bits.length + k) / 8) 0 := ⟨_, rfl⟩
        have q2 : W.cell? ⟨gb, (bits.length + k) / 8, none⟩ = some (.int .u8 old) := by
          have hgl := grownB_length (bits ++ bitsOf v k)
          rw [HM.out] at hgl
          rw [hO'.cellAt _ (by have := HN.out; have := H8.out; omega), bytesV_get _ _ (by omega), hold]
        have p0 := hB.frozen 0
        have p1 := hB.frozen 1
        have p2 := hO'.frozenAt ((bits.length + k) / 8)
        have hne1 : g ≠ gb := Ne.symm (fun e1 => own_ne hO' hB (by decide) (by simp [Value.ownBlock, e1]))
        have hne2 : gb ≠ g := Ne.symm hne1
        have HO := Lib.hid hold
        clear hold
        go_region
        go_wp2
        go_round
        case measure => simp [intOf]; omega
        case rel =>
          refine ⟨k + 1, by omega, by go_num, ?_, ?_⟩
          · rw [HS.out, ← List.append_assoc]
            have := put_round (k := k) (old := old) (mI := (bits.length : Int) + k) HV.out (by rw [HM.out]; simp) (by exact_mod_cast hB) hO' (by rw [HM.out]; exact HO.out) hBs'
            rw [HM.out] at this
            exact this
          · exact ((hK.setOwn hO' _ _).setG 1 _).drew
      · have t8 : (((bits.length : Int) + k) % 8 == 0) = false := by simp; omega
        have H8 := Lib.hid h8
        have HN := Lib.hid hnb
        have hnbb : (packB (bits ++ bitsOf v k)).length ≤ 65536 := by omega
        have hb1 : ((bits.length : Int) + k) / 8 < ((packB (bits ++ bitsOf v k)).length : Int) := by omega
        have hb2 : (((bits.length : Int) + k) / 8).toNat = (bits.length + k) / 8 := by omega
        have hb0 : 0 ≤ ((bits.length : Int) + k) / 8 := by omega
        obtain ⟨gb, cb, hbv, _, _⟩ := hown.form (by omega)
        subst hbv
        clear h8 hnb
        have hG : packB (bits ++ bitsOf v k) = grownB (bits ++ bitsOf v k) := by
          unfold grownB
          rw [HM.out, if_neg H8.out]
        have hO' : wr.ownsRow base 5 1 (Value.slice (some { block := gb, off := 0 }) (packB (bits ++ bitsOf v k)).length cb) (packB (bits ++ bitsOf v k)).length (bytesV (grownB (bits ++ bitsOf v k))) := by rw [← hG]; exact hown
        clear hG hown
        obtain ⟨old, hold⟩ : ∃ o, o = (grownB (bits ++ bitsOf v k)).getD ((bits.length + k) / 8) 0 := ⟨_, rfl⟩
        have q2 : wr.cell? ⟨gb, (bits.length + k) / 8, none⟩ = some (.int .u8 old) := by
          have hgl := grownB_length (bits ++ bitsOf v k)
          rw [HM.out] at hgl
          rw [hO'.cellAt _ (by have := HN.out; have := H8.out; omega), bytesV_get _ _ (by omega), hold]
        have p0 := hbk.frozen 0
        have p1 := hbk.frozen 1
        have p2 := hO'.frozenAt ((bits.length + k) / 8)
        have hne1 : g ≠ gb := Ne.symm (fun e1 => own_ne hO' hbk (by decide) (by simp [Value.ownBlock, e1]))
        have hne2 : gb ≠ g := Ne.symm hne1
        have HO := Lib.hid hold
        clear hold
        go_wp2_with fail
        go_region
        go_wp2
        go_round
        case measure => simp [intOf]; omega
        case rel =>
          refine ⟨k + 1, by omega, by go_num, ?_, ?_⟩
          · rw [HS.out, ← List.append_assoc]
            have := put_round (k := k) (old := old) (mI := (bits.length : Int) + k) HV.out (by rw [HM.out]; simp) (by exact_mod_cast hbk) hO' (by rw [HM.out]; exact HO.out) hbase
            rw [HM.out] at this
            exact this
          · exact ((hkp.setOwn hO' _ _).setG 1 _).drew
    · go_wp2
      go_ret
      obtain rfl : k = n := by omega
      exact ⟨rfl, ⟨bv, hbk, hown, hbase⟩, hkp⟩
set_option maxHeartbeats 800000 in
theorem wbytes_any (g base : Nat) (bits : List Bool) (w : World) (hst : WrSt w base g bits) (hs : bits.length ≤ 524288) :
    Calls Try.prog 184 #[.pointer (some ⟨g, 0, none⟩)] w (RetS w 5 1 (packB bits).length (bytesV (packB bits))) := by
  obtain ⟨i0, hi0, hz0, hz1, hz2⟩ := info_parts T.info5
  obtain ⟨bv, hbk, hown, hbase⟩ := hst
  have hl := packB_length bits
  have hl2 : (packB bits).length ≤ 65536 := by omega
  clear hl
  obtain ⟨A, c, rfl⟩ := ownsRow_slice hown
  have hr := Rd.of_own hown
  have c0 : w.cell? ⟨g, 0, none⟩ = some (.slice A (packB bits).length c) := hbk.cell 0
  clear hbk
  go_enter Try.func184, Try.ntmps184
  go_wp2_with (at_builtin
               go_must (refine wpList_append_rd _ rfl (.const (.slice none 0 0)) (.tmp 6) _ rfl w.heap.size 5 i0 (.int .u8 0) 1 1 Try.underlying81 hi0 hz0 hz1 hz2 rfl (by decide) (.slice none 0 0) 0 [] rfl (World.ownsRow_nil _ _ _ _) w.heap.size A _ c (bytesV (packB bits)) rfl hr (bytesV_one _) ?c2 ?c3 (Nat.le_refl _) ?_)
               case c2 => unfold maxLen; omega
               case c3 => omega
               intro A' c' w1 hown1 hg1 hat1)
  go_ret
  simp only [Nat.zero_add, List.nil_append] at hown1
  exact ⟨A', c', by simp, hown1, (Below.refl _ _).grown hg1 (Nat.le_refl _) (by simp [Value.ownBlock])⟩
theorem strOf_bytes (l : List Nat) (k : List Nat) (hl : ∀ b ∈ l, b < 256) (hk : ∀ b ∈ k, b < 256) : (strOfNums (l.map fun (b : Nat) => (b : Int)) = strOfNums (k.map fun (b : Nat) => (b : Int))) ↔ l = k := by
  constructor
  · intro h
    have h2 := congrArg (fun s : ByteArray => s.data.toList.map UInt8.toNat) h
    simp only [strOfNums_data, List.map_map] at h2
    have key : ∀ m : List Nat, (∀ b ∈ m, b < 256) → m.map (UInt8.toNat ∘ (fun n : Int => UInt8.ofNat n.toNat) ∘ fun (b : Nat) => (b : Int)) = m := by
      intro m hm
      conv => rhs; rw [← List.map_id m]
      refine List.map_congr_left fun b hb => ?_
      have := hm b hb
      simp; omega
    rw [key l hl, key k hk] at h2
    exact h2
  · rintro rfl; rfl
theorem Rd.bytesIn {w : World} {B n : Nat} {A : Option Addr} {l : List Nat} (h : Rd w B 1 A n (bytesV l)) : Lib.BytesIn w A n (l.map fun (b : Nat) => (b : Int)) := by
  intro hn
  obtain ⟨b, o, rfl, _, hc⟩ := h.2 hn
  have hl := h.1
  rw [bytesV_length] at hl
  refine ⟨b, o, rfl, fun i hi => ?_⟩
  rw [hc i _ (bytesV_get l i (by omega))]
  simp [List.getD]
  rw [List.getElem?_eq_getElem (by omega)]; simp
set_option maxHeartbeats 800000 in
theorem bytesEqual_any (A A' : Option Addr) (n c n' c' B : Nat) (l l' : List Nat) (w : World) (hl : ∀ b ∈ l, b < 256) (hl' : ∀ b ∈ l', b < 256)
   (hr : Rd w B 1 A n (bytesV l)) (hr' : Rd w B 1 A' n' (bytesV l')) :
    Calls Try.prog 46 #[.slice A n c, .slice A' n' c'] w fun e w' => e = .returned (.bool (decide (l = l'))) ∧ w = w' := by
  have e1 := (Rd.bytesIn hr).convert (P := Try.prog) (by have := hr.1; rw [bytesV_length] at this; simpa using this) c 81 5 9 Try.underlying81 Try.underlying5 Try.underlying9
  have e2 := (Rd.bytesIn hr').convert (P := Try.prog) (by have := hr'.1; rw [bytesV_length] at this; simpa using this) c' 81 5 9 Try.underlying81 Try.underlying5 Try.underlying9
  have hs := strOf_bytes l l' hl hl'
  generalize strOfNums (l.map fun (b : Nat) => (b : Int)) = s at *
  generalize strOfNums (l'.map fun (b : Nat) => (b : Int)) = s' at *
  have HS := Lib.hid hs
  clear hs hr hr' hl hl'
  go_enter Try.func46, Try.ntmps46
  go_wp2_with fail
  go_ret
  refine ⟨ret_b ?_, rfl⟩
  rw [ByteArray.toList_eq, ByteArray.toList_eq, Bool.eq_iff_iff, beq_iff_eq, decide_eq_true_iff, ← HS.out]
  exact ⟨fun h => ByteArray.ext (Array.toList_inj.mp h), fun h => by rw [h]⟩
theorem own_mono {w : World} {base base' : Nat} {e : TypeId} {size : Nat} {v : Value} {n : Nat} {xs : List Value} (h : w.ownsRow base e size v n xs) (hb : base' ≤ base) : w.ownsRow base' e size v n xs :=
  ⟨h.1, h.2.imp id fun ⟨g, cap, cur, a, b, r⟩ => ⟨g, cap, cur, a, by omega, r⟩⟩
/-- A slice in new memory and an error. -/
def RetS2 (w0 : World) (t : TypeId) (size n : Nat) (xs : List Value) (err : Int) (e : Ending) (w' : World) : Prop :=
  ∃ A c, e = .returned (.tuple #[.slice A n c, .int .i64 err]) ∧ w'.ownsRow w0.heap.size t size (.slice A n c) n xs ∧ Below w0.heap.size w0 w'
theorem WrSt.keep {w w' : World} {base g : Nat} {bits : List Bool} (h : WrSt w base g bits) (hb : Below w.heap.size w w') : WrSt w' base g bits := by
  obtain ⟨v, h1, h2, h3⟩ := h
  refine ⟨v, h1.below hb h1.lt, ?_, by have := hb.size; omega⟩
  exact h2.kept (row := none) ⟨hb.os, hb.tape, hb.output, hb.size, fun k hk _ => hb.block k hk⟩ (by cases hv : v.ownBlock <;> simp)
theorem own_farU {w : World} {base size n g : Nat} {e t : TypeId} {v : Value} {xs : List Value} {cs : Array Value} (h : w.ownsRow base e size v n xs) (hg : Bk w g t cs) (hne : e ≠ t) (i : Nat) (u : Value) :
    (w.setCell ⟨g, i, none⟩ u).ownsRow base e size v n xs :=
  h.kept (row := some g) ⟨rfl, rfl, rfl, by simp [World.setCell], fun k _ hk => Below.heap_setCell _ _ _ _ (fun e => hk (by rw [show k = g from e]))⟩ (.inr (own_ne h hg hne))
theorem own_fullU {w : World} {base n g : Nat} {e : TypeId} {xs : List Value} (h : w.ownsRow base e 1 (.slice (some ⟨g, 0, none⟩) n n) n xs) : base ≤ g ∧ Bk w g e xs.toArray := by
  rcases h.2 with ⟨hv, _⟩ | ⟨g', cap, cur, hv, hb, hh, _, _, hs, ht⟩
  · cases hv
  · simp only [Value.slice.injEq, Option.some.injEq, Addr.mk.injEq, and_true, true_and] at hv
    obtain ⟨rfl, rfl⟩ := hv
    refine ⟨hb, ?_⟩
    have : cur = xs.toArray := by
      rw [← ht, List.take_of_length_le (by simp [hs])]
    rw [← this]; exact hh
def sliceLen : Value → Nat
  | .slice _ n _ => n
  | _ => 0
theorem own_keepU {w w' : World} {base : Nat} {e : TypeId} {size n : Nat} {v : Value} {xs : List Value} (h : w.ownsRow base e size v n xs) (hb : Below w.heap.size w w') : w'.ownsRow base e size v n xs :=
  h.kept (row := none) ⟨hb.os, hb.tape, hb.output, hb.size, fun k hk _ => hb.block k hk⟩ (by cases hv : v.ownBlock <;> simp)
set_option maxRecDepth 100000 in
set_option maxHeartbeats 1600000 in
theorem put_64 (g base v n : Nat) (bits : List Bool) (w : World) (hv : v < 2 ^ 64) (h64 : 64 ≤ n) (h65 : n ≤ 64) (hs : bits.length + n ≤ 524288) (hst : WrSt w base g bits) :
    Calls Try.prog 180 #[.pointer (some ⟨g, 0, none⟩), .int .u64 v, .int .i64 n] w fun e w' => e = .returned (.int .i64 0) ∧ WrSt w' base g (bits ++ bitsOf v n) ∧ Kp base 5 g w w' := by
  obtain ⟨i0, hi0, hz0, hz1, hz2⟩ := info_parts T.info5
  have c1 : w.cell? ⟨g, 1, none⟩ = some (.int .i64 bits.length) := by
    obtain ⟨bv, hbk, hown, hbase⟩ := hst
    exact hbk.cell 1
  have h1 : (0:Int) ≤ (n : Int) := by omega
  have h2 : (64 : Int) ≤ (n : Int) := by omega
  have h2' : (n : Int) ≤ 64 := by omega
  have HV := Lib.hid hv
  clear hv
  go_enter Try.func180, Try.ntmps180
  go_wp2_with fail
  clear c1
  go_loopw [32] (fun i wr => ∃ k : Nat, k ≤ n ∧ i = .int .i64 k ∧ WrSt wr base g (bits ++ bitsOf v k) ∧ Kp base 5 g w wr) (fun i _ => n - (intOf i).toNat)
  case atStart => exact ⟨0, Nat.zero_le _, rfl, by simpa [bitsOf] using hst, Kp.refl⟩
  case round =>
    obtain ⟨k, hk, rfl, ⟨bv, hbk, hown, hbase⟩, hkp⟩ := hrel
    by_cases hlt : k < n
    · have hm : (bits ++ bitsOf v k).length = bits.length + k := by simp [bitsOf]
      have hnb := packB_length (bits ++ bitsOf v k)
      have hmm : bits.length + k < 524288 := by omega
      rw [hm] at hnb
      have HM := Lib.hid hm
      have HS := Lib.hid (bitsOf_succ v k)
      rw [hm] at hbk
      clear hm
      have c0 : wr.cell? ⟨g, 0, none⟩ = some bv := hbk.cell 0
      have c1 : wr.cell? ⟨g, 1, none⟩ = some (.int .i64 ((bits.length : Int) + k)) := (hbk.cell 1).trans (by simp)
      by_cases h8 : (bits.length + k) % 8 = 0
      · have t8 : (((bits.length : Int) + k) % 8 == 0) = true := by simp; omega
        have H8 := Lib.hid h8
        have HN := Lib.hid hnb
        have hnbb : (packB (bits ++ bitsOf v k)).length ≤ 65536 := by omega
        have hb1 : ((bits.length : Int) + k) / 8 < ((packB (bits ++ bitsOf v k)).length : Int) + 1 := by omega
        have hb2 : (((bits.length : Int) + k) / 8).toNat = (bits.length + k) / 8 := by omega
        have hb0 : 0 ≤ ((bits.length : Int) + k) / 8 := by omega
        clear h8 hnb
        go_wp2_with (first
          | (at_builtin
             go_must (refine wpList_append_one _ rfl (.tmp 45) (.tmp 46) _ rfl base 5 i0 (.int .u8 0) 1 1 Try.underlying81 hi0 hz0 hz1 hz2 rfl (by decide) bv _ _ rfl (hown.alloc _) wr.heap.size 1 5 #[.int .u8 0] rfl (Bk.new _ _ _) rfl ?c1 _ rfl ?c2 ?c3 ?c4 ?_)
             case c1 => simp [Value.oneCell']
             case c2 => unfold maxLen; omega
             case c3 => omega
             case c4 => simp; omega
             intro gb cb w1 hown1 hg1 hat1
             have hbk1 := (hbk.alloc (.cells #[.int .u8 0] 5)).grown hg1 (fun e1 => own_ne (hown.alloc _) (hbk.alloc (.cells #[.int .u8 0] 5)) (by decide) e1.symm)
             have c0' : w1.cell? ⟨g, 0, none⟩ = some bv := hbk1.cell 0
             have f0' := hbk1.frozen 0))
        have hB := hbk1.set_ 0 (Value.slice (some { block := gb, off := 0 }) ((packB (bits ++ bitsOf v k)).length + 1) cb)
        have hO := ownsRow_setCell_other hown1 (a := ⟨g, 0, none⟩) (own_ne hown1 hbk1 (by decide)) (Value.slice (some { block := gb, off := 0 }) ((packB (bits ++ bitsOf v k)).length + 1) cb)
        have hK := ((hkp.alloc (.cells #[.int .u8 0] 5)).grown (hown.alloc _) hg1).setG 0 (Value.slice (some { block := gb, off := 0 }) ((packB (bits ++ bitsOf v k)).length + 1) cb)
        have hBs : base ≤ w1.heap.size := by have := hg1.size; simp at this; omega
        clear hown1 hg1 hbk1 c0' f0' hat1 c0 c1 hkp hown hbk t8
        generalize hW : w1.setCell { block := g, off := 0 } (Value.slice (some { block := gb, off := 0 }) ((packB (bits ++ bitsOf v k)).length + 1) cb) = W at *
        have hBs' : base ≤ W.heap.size := by rw [← hW]; simpa [World.setCell] using hBs
        clear hW hBs
        have hG : bytesV (packB (bits ++ bitsOf v k)) ++ [Value.int IntKind.u8 0] = bytesV (grownB (bits ++ bitsOf v k)) := by
          unfold grownB
          rw [HM.out, if_pos H8.out, bytesV_append]; rfl
        have hO' : W.ownsRow base 5 1 (Value.slice (some { block := gb, off := 0 }) ((packB (bits ++ bitsOf v k)).length + 1) cb) ((packB (bits ++ bitsOf v k)).length + 1) (bytesV (grownB (bits ++ bitsOf v k))) := by rw [← hG]; exact hO
        clear hG hO
        have q0 : W.cell? ⟨g, 0, none⟩ = some (Value.slice (some { block := gb, off := 0 }) ((packB (bits ++ bitsOf v k)).length + 1) cb) := hB.cell 0
        have q1 : W.cell? ⟨g, 1, none⟩ = some (.int .i64 ((bits.length : Int) + k)) := (hB.cell 1).trans (by simp)
        obtain ⟨old, hold⟩ : ∃ o, o = (grownB (bits ++ bitsOf v k)).getD ((bits.length + k) / 8) 0 := ⟨_, rfl⟩
        have q2 : W.cell? ⟨gb, (bits.length + k) / 8, none⟩ = some (.int .u8 old) := by
          have hgl := grownB_length (bits ++ bitsOf v k)
          rw [HM.out] at hgl
          rw [hO'.cellAt _ (by have := HN.out; have := H8.out; omega), bytesV_get _ _ (by omega), hold]
        have p0 := hB.frozen 0
        have p1 := hB.frozen 1
        have p2 := hO'.frozenAt ((bits.length + k) / 8)
        have hne1 : g ≠ gb := Ne.symm (fun e1 => own_ne hO' hB (by decide) (by simp [Value.ownBlock, e1]))
        have hne2 : gb ≠ g := Ne.symm hne1
        have HO := Lib.hid hold
        clear hold
        go_region
        go_wp2
        go_round
        case measure => simp [intOf]; omega
        case rel =>
          refine ⟨k + 1, by omega, by go_num, ?_, ?_⟩
          · rw [HS.out, ← List.append_assoc]
            have := put_round (k := k) (old := old) (mI := (bits.length : Int) + k) HV.out (by rw [HM.out]; simp) (by exact_mod_cast hB) hO' (by rw [HM.out]; exact HO.out) hBs'
            rw [HM.out] at this
            exact this
          · exact ((hK.setOwn hO' _ _).setG 1 _).drew
      · have t8 : (((bits.length : Int) + k) % 8 == 0) = false := by simp; omega
        have H8 := Lib.hid h8
        have HN := Lib.hid hnb
        have hnbb : (packB (bits ++ bitsOf v k)).length ≤ 65536 := by omega
        have hb1 : ((bits.length : Int) + k) / 8 < ((packB (bits ++ bitsOf v k)).length : Int) := by omega
        have hb2 : (((bits.length : Int) + k) / 8).toNat = (bits.length + k) / 8 := by omega
        have hb0 : 0 ≤ ((bits.length : Int) + k) / 8 := by omega
        obtain ⟨gb, cb, hbv, _, _⟩ := hown.form (by omega)
        subst hbv
        clear h8 hnb
        have hG : packB (bits ++ bitsOf v k) = grownB (bits ++ bitsOf v k) := by
          unfold grownB
          rw [HM.out, if_neg H8.out]
        have hO' : wr.ownsRow base 5 1 (Value.slice (some { block := gb, off := 0 }) (packB (bits ++ bitsOf v k)).length cb) (packB (bits ++ bitsOf v k)).length (bytesV (grownB (bits ++ bitsOf v k))) := by rw [← hG]; exact hown
        clear hG hown
        obtain ⟨old, hold⟩ : ∃ o, o = (grownB (bits ++ bitsOf v k)).getD ((bits.length + k) / 8) 0 := ⟨_, rfl⟩
        have q2 : wr.cell? ⟨gb, (bits.length + k) / 8, none⟩ = some (.int .u8 old) := by
          have hgl := grownB_length (bits ++ bitsOf v k)
          rw [HM.out] at hgl
          rw [hO'.cellAt _ (by have := HN.out; have := H8.out; omega), bytesV_get _ _ (by omega), hold]
        have p0 := hbk.frozen 0
        have p1 := hbk.frozen 1
        have p2 := hO'.frozenAt ((bits.length + k) / 8)
        have hne1 : g ≠ gb := Ne.symm (fun e1 => own_ne hO' hbk (by decide) (by simp [Value.ownBlock, e1]))
        have hne2 : gb ≠ g := Ne.symm hne1
        have HO := Lib.hid hold
        clear hold
        go_wp2_with fail
        go_region
        go_wp2
        go_round
        case measure => simp [intOf]; omega
        case rel =>
          refine ⟨k + 1, by omega, by go_num, ?_, ?_⟩
          · rw [HS.out, ← List.append_assoc]
            have := put_round (k := k) (old := old) (mI := (bits.length : Int) + k) HV.out (by rw [HM.out]; simp) (by exact_mod_cast hbk) hO' (by rw [HM.out]; exact HO.out) hbase
            rw [HM.out] at this
            exact this
          · exact ((hkp.setOwn hO' _ _).setG 1 _).drew
    · go_wp2
      go_ret
      obtain rfl : k = n := by omega
      exact ⟨rfl, ⟨bv, hbk, hown, hbase⟩, hkp⟩

set_option maxRecDepth 100000
theorem wrapU_rng (z : Int) : 0 ≤ IntKind.u64.wrap z ∧ IntKind.u64.wrap z < 18446744073709551616 := by rw [IntKind.wrap_u64]; omega
theorem xorU_rng (a b : Int) : 0 ≤ Go.bits .xor .u64 a b ∧ Go.bits .xor .u64 a b < 18446744073709551616 := by
  show 0 ≤ IntKind.u64.wrap _ ∧ IntKind.u64.wrap _ < _
  exact wrapU_rng _
def mixA (x : Int) : Int := IntKind.u64.wrap (Go.bits .xor .u64 x (x / 2147483648) * 7640891576956012809)
def mixB (a : Int) : Int := IntKind.u64.wrap (Go.bits .xor .u64 a (a / 134217728) * 13503953896175478587)
def mixC (b : Int) : Int := Go.bits .xor .u64 b (b / 1073741824)
def mixI (x : Int) : Int := mixC (mixB (mixA x))
theorem mixI_rng (x : Int) : 0 ≤ mixI x ∧ mixI x < 18446744073709551616 := xorU_rng _ _
theorem mix_any (x : Int) (w : World) (_h0 : 0 ≤ x) (_h1 : x < 18446744073709551616) : Calls Try.prog 223 #[.int .u64 x] w fun e w' => e = .returned (.int .u64 (mixI x)) ∧ w = w' := by
  go_enter Try.func223, Try.ntmps223
  go_wp2_with fail
  go_ret
  exact ⟨rfl, rfl⟩
def joinA (a : Int) : Int := IntKind.u64.wrap (a + 5840696475078001361)
def joinB (m b : Int) : Int := IntKind.u64.wrap (IntKind.u64.wrap (m * 11170449401992604703) + b)
def joinI (a b : Int) : Int := mixI (joinB (mixI (joinA a)) b)
theorem joinI_rng (a b : Int) : 0 ≤ joinI a b ∧ joinI a b < 18446744073709551616 := mixI_rng _
theorem join_any (a b : Int) (w : World) (_a0 : 0 ≤ a) (_a1 : a < 18446744073709551616) (_b0 : 0 ≤ b) (_b1 : b < 18446744073709551616) : Calls Try.prog 194 #[.int .u64 a, .int .u64 b] w fun e w' => e = .returned (.int .u64 (joinI a b)) ∧ w = w' := by
  have h1 := mix_any (joinA a) w (wrapU_rng _).1 (wrapU_rng _).2
  have h2 := mix_any (joinB (mixI (joinA a)) b) w (wrapU_rng _).1 (wrapU_rng _).2
  have H1 := Lib.hid h1
  have H2 := Lib.hid h2
  clear h1 h2
  go_enter Try.func194, Try.ntmps194
  go_wp2_with fail
  refine H1.out.mono ?_
  rintro e w1 ⟨rfl, rfl⟩
  have hm := mixI_rng (joinA a)
  obtain ⟨hm0, hm1⟩ := hm
  go_wp2_with fail
  refine H2.out.mono ?_
  rintro e w1 ⟨rfl, rfl⟩
  go_wp2_with fail
  go_ret
  exact ⟨rfl, rfl⟩

def wordsI (xs : List Int) : Int := xs.foldl joinI (joinI 5840696475078001361 xs.length)
theorem wordsI_rng (xs : List Int) : 0 ≤ wordsI xs ∧ wordsI xs < 18446744073709551616 := by
  unfold wordsI
  have : ∀ (l : List Int) (d : Int), 0 ≤ d ∧ d < 18446744073709551616 → 0 ≤ l.foldl joinI d ∧ l.foldl joinI d < 18446744073709551616 := by
    intro l
    induction l with
    | nil => intro d hd; exact hd
    | cons a l ih => intro d hd; exact ih _ (joinI_rng _ _)
  exact this _ _ (joinI_rng _ _)
def sumI (xs : List Int) : Int := wordsI (xs.map fun x => IntKind.u64.wrap x)
theorem sumI_rng (xs : List Int) : 0 ≤ sumI xs ∧ sumI xs < 18446744073709551616 := wordsI_rng _

set_option maxHeartbeats 800000 in
theorem words_any (A : Option Addr) (n c B : Nat) (xs : List Int) (w : World) (hr : Rd w B 1 A n (xs.map (Value.int .u64))) (hn : n = xs.length) (hn1 : n ≤ 1000000000) (hx : ∀ x ∈ xs, 0 ≤ x ∧ x < 18446744073709551616) :
    Calls Try.prog 128 #[.slice A n c] w fun e w' => e = .returned (.int .u64 (wordsI xs)) ∧ w = w' := by
  have hj := join_any 5840696475078001361 n w (by decide) (by decide) (by omega) (by omega)
  have HJ := Lib.hid hj
  have HR := Lib.hid hr
  have HN := Lib.hid hn
  have HX := Lib.hid hx
  clear hj hr hn hx
  go_enter Try.func128, Try.ntmps128
  go_wp2_with fail
  refine HJ.out.mono ?_
  rintro e w1 ⟨rfl, rfl⟩
  obtain ⟨d0, hd0⟩ : ∃ d, d = joinI 5840696475078001361 n := ⟨_, rfl⟩
  rw [← hd0]
  have hdr : 0 ≤ d0 ∧ d0 < 18446744073709551616 := by rw [hd0]; exact joinI_rng _ _
  have HD0 := Lib.hid hd0
  clear hd0 HJ
  go_wp2_with fail
  go_loopw [3, 12] (fun d v wr => ∃ (k : Nat) (D : Int), k ≤ n ∧ v = .int .i64 k ∧ d = .int .u64 D ∧ 0 ≤ D ∧ D < 18446744073709551616 ∧ Hid (D = (xs.take k).foldl joinI d0) ∧ wr = w) (fun _ v _ => n - (intOf v).toNat)
  case atStart => exact ⟨0, d0, Nat.zero_le _, rfl, rfl, hdr.1, hdr.2, Lib.hid rfl, rfl⟩
  case round =>
    obtain ⟨k, D, hk, rfl, rfl, hD0, hD1, HD, rfl⟩ := hrel
    by_cases hlt : k < n
    · obtain ⟨x, hxk⟩ : ∃ x, xs[k]? = some x := ⟨_, List.getElem?_eq_getElem (by have := HN.out; omega)⟩
      obtain ⟨b, o, rfl, _, hcx⟩ := HR.out.at1 hlt (u := .int .u64 x) (by rw [List.getElem?_map, hxk]; rfl)
      obtain ⟨hx0, hx1⟩ := HX.out x (List.mem_of_getElem? hxk)
      have hj := join_any D x wr hD0 hD1 hx0 hx1
      have HJ := Lib.hid hj
      have HXK := Lib.hid hxk
      clear hj hxk
      go_wp2_with fail
      refine HJ.out.mono ?_
      rintro e w1 ⟨rfl, rfl⟩
      go_wp2_with fail
      go_roundw
      case rel => exact ⟨k + 1, joinI D x, by omega, by go_num, rfl, (joinI_rng D x).1, (joinI_rng D x).2, Lib.hid (by rw [List.take_add_one, HXK.out, List.foldl_append, ← HD.out]; rfl), trivial⟩
      case measure => simp [intOf]; omega
    · obtain rfl : k = n := by omega
      go_wp2_with fail
      go_ret
      refine ⟨?_, rfl⟩
      have h1 := HD.out
      have h2 := HN.out
      rw [List.take_of_length_le (by omega), HD0.out] at h1
      rw [h1]
      unfold wordsI
      rw [← h2]
      rfl

theorem T.info91 : (Try.prog.info? 91).map (fun i => (i.zero, i.size, i.bytes)) = some (some (.int .u64 0), 1, 8) := by kernel_rfl
def u64A (n k : Nat) (xs : List Int) : Array Value := (((xs.take k).map fun x => IntKind.u64.wrap x) ++ List.replicate (n - k) 0).map (Value.int .u64) |>.toArray
theorem u64A_zero (n : Nat) (xs : List Int) : ((madeCells (Value.int .u64 0).cells (n * 1)).toList).toArray = u64A n 0 xs := by
  apply Array.ext'
  simp only [madeCells, u64A]
  rw [Nat.mul_one]
  apply List.ext_getElem?
  intro j
  by_cases hj : j < n
  · simp [hj, Value.cells, Nat.mod_one]
  · simp [hj]
theorem u64A_set (n k : Nat) (xs : List Int) (x : Int) (hn : n = xs.length) (hk : k < n) (hx : xs[k]? = some x) : (u64A n k xs).setIfInBounds k (.int .u64 (IntKind.u64.wrap x)) = u64A n (k + 1) xs := by
  apply Array.ext'
  simp only [u64A, List.setIfInBounds_toArray]
  rw [List.take_add_one, hx]
  have h1 : n - k = (n - (k + 1)) + 1 := by omega
  have h2 : ((xs.take k).map fun x => IntKind.u64.wrap x).length = k := by rw [List.length_map, List.length_take]; omega
  rw [h1, List.replicate_succ]
  simp only [List.map_append, List.map_cons]
  rw [List.set_append_right _ _ (by rw [List.length_map, h2]; exact Nat.le_refl _), List.length_map, h2, Nat.sub_self]
  simp

set_option maxHeartbeats 800000 in
theorem sumInts_any (A : Option Addr) (n c B : Nat) (xs : List Int) (w : World) (hr : Rd w B 1 A n (xs.map (Value.int .i64))) (hn : n = xs.length) (hn1 : n ≤ 1000000000) (hB : B ≤ w.heap.size) (hx : ∀ x ∈ xs, -9223372036854775808 ≤ x ∧ x ≤ 9223372036854775807) :
    Calls Try.prog 48 #[.slice A n c] w fun e w' => e = .returned (.int .u64 (sumI xs)) ∧ Below w.heap.size w w' := by
  obtain ⟨i0, hi0, hz0, hz1, hz2⟩ := info_parts T.info91
  have HR := Lib.hid hr
  have HN := Lib.hid hn
  have HX := Lib.hid hx
  clear hr hn hx
  go_enter Try.func48, Try.ntmps48
  go_wp2_with
    (at_make
     go_must (refine wpList_make_full _ rfl _ _ 231 rfl w.heap.size 91 i0 (.int .u64 0) 1 Try.underlying231 hi0 hz0 hz1 .i64 .i64 _ _ n rfl rfl rfl rfl (by rw [hz2]; omega) (by unfold maxLen; omega) (Nat.le_refl _) ?_)
     intro w3 hown3 hg3
     obtain ⟨hgc, hbk3⟩ := own_fullU hown3
     rw [u64A_zero n xs] at hbk3
     have hb3 := (Below.refl w.heap.size w).grown hg3 (Nat.le_refl _) (fun q hq => by cases hq)
     clear hown3)
  clear hg3
  generalize hgw : w.heap.size = gc at *
  have HGW := Lib.hid hgw
  clear hgw
  go_loopw [11] (fun v wr => ∃ k : Nat, k ≤ n ∧ v = .int .i64 k ∧ Bk wr gc 91 (u64A n k xs) ∧ Below gc w wr) (fun v _ => n - (intOf v).toNat)
  case atStart => exact ⟨0, Nat.zero_le _, rfl, hbk3, hb3⟩
  case round =>
    obtain ⟨k, hk, rfl, hbk, hb⟩ := hrel
    clear hbk3 hb3
    by_cases hlt : k < n
    · obtain ⟨x, hxk⟩ : ∃ x, xs[k]? = some x := ⟨_, List.getElem?_eq_getElem (by have := HN.out; omega)⟩
      obtain ⟨b, o, rfl, _, hcx⟩ := (HR.out.below (hb.mono hB)).at1 hlt (u := .int .i64 x) (by rw [List.getElem?_map, hxk]; rfl)
      obtain ⟨hx0, hx1⟩ := HX.out x (List.mem_of_getElem? hxk)
      have hc : ∃ u, wr.cell? ⟨gc, k, none⟩ = some u := by
        have h1 := hbk.cell k
        have h2 : k < (u64A n k xs).size := by
          simp only [u64A, List.size_toArray, List.length_map, List.length_append, List.length_take, List.length_replicate]
          have := HN.out; omega
        exact ⟨_, h1.trans (Array.getElem?_eq_getElem h2)⟩
      obtain ⟨u, hc⟩ := hc
      have hf := hbk.frozen k
      have hset := hbk.set_ k (.int .u64 (IntKind.u64.wrap x))
      rw [u64A_set n k xs x HN.out hlt hxk] at hset
      have hb2 := hb.setCell (p := ⟨gc, k, none⟩) (Nat.le_refl _) (.int .u64 (IntKind.u64.wrap x))
      have HS := Lib.hid hset
      clear hset hxk hbk
      go_wp2_with fail
      go_roundw
      case rel => exact ⟨k + 1, by omega, by go_num, HS.out, hb2⟩
      case measure => simp [intOf]; omega
    · obtain rfl : k = n := by omega
      have hR : Rd wr (gc + 1) 1 (some ⟨gc, 0, none⟩) k ((xs.map fun x => IntKind.u64.wrap x).map (Value.int .u64)) := by
        refine ⟨by simp [HN.out], fun _ => ⟨gc, 0, rfl, by omega, fun j v hv => ?_⟩⟩
        rw [Nat.zero_add]
        refine (hbk.cell j).trans ?_
        simp only [u64A, Nat.sub_self, List.replicate_zero, List.append_nil]
        rw [List.take_of_length_le (by have := HN.out; omega)]
        simpa using hv
      have hw := words_any (some ⟨gc, 0, none⟩) k k (gc + 1) (xs.map fun x => IntKind.u64.wrap x) wr hR (by simp [HN.out]) hn1 (fun x hx => by
        obtain ⟨y, _, rfl⟩ := List.mem_map.1 hx
        exact wrapU_rng y)
      have HW := Lib.hid hw
      clear hw hR hbk
      go_wp2_with fail
      refine HW.out.mono ?_
      rintro e w5 ⟨rfl, rfl⟩
      go_wp2_with fail
      go_ret
      exact ⟨rfl, by rw [HGW.out]; exact hb⟩

/-! ### Ub -/
def grp (v : Nat) : Nat := Nat.log2 v / 4 + 1
theorem pow16 (k : Nat) : 16 ^ k = 2 ^ (4 * k) := by rw [Nat.pow_mul]
theorem grp_of (v k : Nat) (h1 : 1 ≤ k) (h2 : v / 16 ^ k = 0) (h3 : k = 1 ∨ v / 16 ^ (k - 1) ≠ 0) : grp v = k := by
  have hlt : v < 2 ^ (4 * k) := by
    rw [← pow16]
    rcases Nat.div_eq_zero_iff.1 h2 with h | h
    · have := Nat.pow_pos (n := k) (show 0 < 16 by omega); omega
    · exact h
  unfold grp
  by_cases hv : v = 0
  · subst hv
    rcases h3 with h3 | h3
    · subst h3; rfl
    · simp at h3
  · have hl : v.log2 < 4 * k := (Nat.log2_lt hv).2 hlt
    rcases h3 with h3 | h3
    · subst h3; omega
    · have hge : 2 ^ (4 * (k - 1)) ≤ v := by
        rw [← pow16]
        rcases Nat.lt_or_ge v (16 ^ (k - 1)) with h | h
        · exact absurd (Nat.div_eq_of_lt h) h3
        · exact h
      have := (Nat.le_log2 hv).2 hge
      omega
theorem grp_le (v : Nat) (h : v < 18446744073709551616) : 1 ≤ grp v ∧ grp v ≤ 16 := by
  unfold grp
  by_cases hv : v = 0
  · subst hv; decide
  · have : v.log2 < 64 := (Nat.log2_lt hv).2 h
    omega

/-- The bits of a number in groups. -/
def natP (v n k : Nat) : List Bool := (List.range k).flatMap fun j => bitsOf (v / 16 ^ j % 16) 4 ++ [decide (j + 1 < n)]
def natB (v : Nat) : List Bool := natP v (grp v) (grp v)
theorem natP_succ (v n k : Nat) : natP v n (k + 1) = natP v n k ++ (bitsOf (v / 16 ^ k % 16) 4 ++ [decide (k + 1 < n)]) := by
  unfold natP; rw [List.range_succ, List.flatMap_append]; simp
theorem natP_length (v n k : Nat) : (natP v n k).length = 5 * k := by
  induction k with
  | zero => rfl
  | succ k ih => rw [natP_succ, List.length_append, ih, List.length_append, bitsOf_length]; simp; omega
theorem natB_length (v : Nat) : (natB v).length = 5 * grp v := natP_length _ _ _
theorem bits5 (a : Nat) (b : Bool) (h : a < 16) : bitsOf (a ||| (if b then 16 else 0)) 5 = bitsOf a 4 ++ [b] := by
  have : ∀ a, a < 16 → ∀ b : Bool, bitsOf (a ||| (if b then 16 else 0)) 5 = bitsOf a 4 ++ [b] := by decide
  exact this a h b
theorem or_lt32 (a : Nat) (b : Bool) (h : a < 16) : a ||| (if b then 16 else 0) < 32 := by
  have : ∀ a, a < 16 → ∀ b : Bool, a ||| (if b then 16 else 0) < 32 := by decide
  exact this a h b

set_option maxHeartbeats 800000 in
theorem groups_any (v : Nat) (w : World) (hv : v < 18446744073709551616) : Calls Try.prog 218 #[.int .u64 v] w fun e w' => e = .returned (.int .i64 (grp v)) ∧ w = w' := by
  have HV := Lib.hid hv
  have hv' : v ≤ 18446744073709551615 := by omega
  clear hv
  go_enter Try.func218, Try.ntmps218
  go_wp2_with fail
  go_loopw [0, 3] (fun x n wr => ∃ (k a : Nat), 1 ≤ k ∧ n = .int .i64 k ∧ x = .int .u64 a ∧ Hid (a = v / 16 ^ k ∧ (k = 1 ∨ v / 16 ^ (k - 1) ≠ 0)) ∧ k ≤ 17 ∧ a ≤ 18446744073709551615 ∧ wr = w) (fun x _ _ => (intOf x).toNat)
  case atStart => exact ⟨1, v / 16, Nat.le_refl _, rfl, by simp, Lib.hid ⟨by simp, .inl rfl⟩, by omega, by omega, rfl⟩
  case round =>
    obtain ⟨k, a, hk, rfl, rfl, HA, hk17, ha, rfl⟩ := hrel
    by_cases hp : 0 < a
    · have hk16 : k ≤ 16 := by
        have h1 := HA.out.1
        rcases Nat.lt_or_ge 16 k with h | h
        · have : v / 16 ^ k = 0 := by
            have h2 : k = 17 := by omega
            rw [h2]
            exact Nat.div_eq_of_lt (by have := HV.out; omega)
          omega
        · exact h
      have hnext : a / 16 = v / 16 ^ (k + 1) ∧ (k + 1 = 1 ∨ v / 16 ^ (k + 1 - 1) ≠ 0) := by
        refine ⟨?_, .inr ?_⟩
        · rw [HA.out.1, Nat.div_div_eq_div_mul, Nat.pow_succ]
        · rw [Nat.add_sub_cancel, ← HA.out.1]; omega
      have HNX := Lib.hid hnext
      clear hnext
      go_wp2_with fail
      go_roundw
      case rel => exact ⟨k + 1, a / 16, by omega, by go_num, by simp, HNX, by omega, by omega, trivial⟩
      case measure => simp [intOf]; omega
    · obtain rfl : a = 0 := by omega
      have hg : grp v = k := grp_of v k hk HA.out.1.symm HA.out.2
      have HGR := Lib.hid hg
      clear hg hp
      go_wp2_with fail
      go_ret
      exact ⟨by rw [HGR.out]; rfl, rfl⟩

def bse (a : List Int) (i : Nat) : Int := a.getD i 0
theorem base_any (A : Option Addr) (n c B i : Nat) (a : List Int) (w : World) (hr : Rd w B 1 A n (a.map (Value.int .i64))) (hn : n = a.length) (_hn1 : n ≤ 1000000000) (_hi : i ≤ 1000000000) :
    Calls Try.prog 182 #[.slice A n c, .int .i64 i] w fun e w' => e = .returned (.int .i64 (bse a i)) ∧ w = w' := by
  by_cases hlt : i < n
  · obtain ⟨x, hx⟩ : ∃ x, a[i]? = some x := ⟨_, List.getElem?_eq_getElem (by omega)⟩
    obtain ⟨b, o, rfl, _, hcx⟩ := hr.at1 hlt (u := .int .i64 x) (by rw [List.getElem?_map, hx]; rfl)
    have he : bse a i = x := by simp [bse, List.getD, hx]
    have HE := Lib.hid he
    clear he hx hr hn
    go_enter Try.func182, Try.ntmps182
    go_wp2_with fail
    go_ret
    exact ⟨by rw [HE.out]; rfl, rfl⟩
  · have he : bse a i = 0 := by simp [bse, List.getD, List.getElem?_eq_none (show a.length ≤ i by omega)]
    have HE := Lib.hid he
    clear he hr hn
    go_enter Try.func182, Try.ntmps182
    go_wp2_with fail
    go_ret
    exact ⟨by rw [HE.out]; rfl, rfl⟩

/-- A number with a sign as one without. -/
def zig (x : Int) : Nat := if x < 0 then (2 * (-(x + 1)) + 1).toNat else (2 * x).toNat
theorem zig_lt (x : Int) (h0 : -9223372036854775808 ≤ x) (h1 : x ≤ 9223372036854775807) : zig x < 18446744073709551616 := by
  unfold zig; split <;> omega
theorem bvxor (a b : Nat) (ha : a < 18446744073709551616) (hb : b < 18446744073709551616) : Go.bits .xor .u64 (a : Int) (b : Int) = ((a ^^^ b : Nat) : Int) := by
  have hx : a ^^^ b < 2 ^ 64 := Nat.xor_lt_two_pow ha hb
  show IntKind.u64.wrap ((BitVec.ofInt 64 (a : Int) ^^^ BitVec.ofInt 64 (b : Int)).toNat : Int) = _
  rw [BitVec.toNat_xor, BitVec.ofInt_natCast, BitVec.ofInt_natCast, BitVec.toNat_ofNat, BitVec.toNat_ofNat, Nat.mod_eq_of_lt ha, Nat.mod_eq_of_lt hb, IntKind.wrap_u64]
  omega
theorem xor_ones (a : Nat) (ha : a < 18446744073709551616) : a ^^^ 18446744073709551615 = 18446744073709551615 - a := by
  have h1 := congrArg BitVec.toNat (BitVec.xor_allOnes (x := BitVec.ofNat 64 a))
  rw [BitVec.toNat_xor, BitVec.toNat_not, BitVec.toNat_allOnes, BitVec.toNat_ofNat, Nat.mod_eq_of_lt ha] at h1
  exact h1
theorem zig_eq (x : Int) (h0 : -9223372036854775808 ≤ x) (h1 : x ≤ 9223372036854775807) :
    Go.bits .xor .u64 (IntKind.u64.wrap (IntKind.u64.wrap x * 2)) (IntKind.u64.wrap (x / 9223372036854775808)) = (zig x : Int) := by
  unfold zig
  by_cases hx : x < 0
  · rw [if_pos hx]
    have e1 : IntKind.u64.wrap (IntKind.u64.wrap x * 2) = ((18446744073709551616 + 2 * x).toNat : Int) := by
      rw [IntKind.wrap_u64, IntKind.wrap_u64]; omega
    have e2 : IntKind.u64.wrap (x / 9223372036854775808) = ((18446744073709551615 : Nat) : Int) := by
      rw [IntKind.wrap_u64]; omega
    rw [e1, e2, bvxor _ _ (by omega) (by omega), xor_ones _ (by omega)]
    omega
  · rw [if_neg hx]
    have e1 : IntKind.u64.wrap (IntKind.u64.wrap x * 2) = ((2 * x).toNat : Int) := by
      rw [IntKind.wrap_u64, IntKind.wrap_u64]; omega
    have e2 : IntKind.u64.wrap (x / 9223372036854775808) = ((0 : Nat) : Int) := by
      rw [IntKind.wrap_u64]; omega
    rw [e1, e2, bvxor _ _ (by omega) (by omega), Nat.xor_zero]

theorem bvand (a b : Nat) (ha : a < 18446744073709551616) (hb : b < 18446744073709551616) : Go.bits .and .u64 (a : Int) (b : Int) = ((a &&& b : Nat) : Int) := by
  have hx : a &&& b < 2 ^ 64 := Nat.and_lt_two_pow _ hb
  show IntKind.u64.wrap ((BitVec.ofInt 64 (a : Int) &&& BitVec.ofInt 64 (b : Int)).toNat : Int) = _
  rw [BitVec.toNat_and, BitVec.ofInt_natCast, BitVec.ofInt_natCast, BitVec.toNat_ofNat, BitVec.toNat_ofNat, Nat.mod_eq_of_lt ha, Nat.mod_eq_of_lt hb, IntKind.wrap_u64]
  omega
theorem bvor (a b : Nat) (ha : a < 18446744073709551616) (hb : b < 18446744073709551616) : Go.bits .or .u64 (a : Int) (b : Int) = ((a ||| b : Nat) : Int) := by
  have hx : a ||| b < 2 ^ 64 := Nat.or_lt_two_pow ha hb
  show IntKind.u64.wrap ((BitVec.ofInt 64 (a : Int) ||| BitVec.ofInt 64 (b : Int)).toNat : Int) = _
  rw [BitVec.toNat_or, BitVec.ofInt_natCast, BitVec.ofInt_natCast, BitVec.toNat_ofNat, BitVec.toNat_ofNat, Nat.mod_eq_of_lt ha, Nat.mod_eq_of_lt hb, IntKind.wrap_u64]
  omega
theorem grpval (v k m : Nat) (hv : v < 18446744073709551616) (hm : m ≤ 16) : Go.bits .or .u64 (Go.bits .and .u64 ((v : Int) / 2 ^ (4 * k)) 15) (m : Int) = ((v / 16 ^ k % 16 ||| m : Nat) : Int) := by
  have e1 : (v : Int) / 2 ^ (4 * k) = ((v / 16 ^ k : Nat) : Int) := by
    rw [pow16]; simp
  have hd : v / 16 ^ k ≤ v := Nat.div_le_self _ _
  rw [e1, show (15 : Int) = ((15 : Nat) : Int) from rfl, bvand _ _ (by omega) (by omega), show v / 16 ^ k &&& 15 = v / 16 ^ k % 16 from Nat.and_two_pow_sub_one_eq_mod _ 4, bvor _ _ (by omega) (by omega)]
theorem put_grp (g base v k n : Nat) (b : Bool) (X : Int) (bits : List Bool) (w : World) (hb : b = decide (k + 1 < n)) (hX : X = ((v / 16 ^ k % 16 ||| (if b then 16 else 0) : Nat) : Int)) (hs : bits.length + 5 * (k + 1) ≤ 524288) (hst : WrSt w base g (bits ++ natP v n k)) :
    Calls Try.prog 180 #[.pointer (some ⟨g, 0, none⟩), .int .u64 X, .int .i64 5] w fun e w' => e = .returned (.int .i64 0) ∧ WrSt w' base g (bits ++ natP v n (k + 1)) ∧ Kp base 5 g w w' := by
  have hlt := or_lt32 (v / 16 ^ k % 16) b (Nat.mod_lt _ (by omega))
  subst hX
  have h := put_any g base (v / 16 ^ k % 16 ||| (if b then 16 else 0)) 5 (bits ++ natP v n k) w (by omega) (by omega) (by rw [List.length_append, natP_length]; omega) hst
  rw [bits5 _ b (Nat.mod_lt _ (by omega)), List.append_assoc] at h
  rw [natP_succ, ← hb]
  exact h

set_option maxHeartbeats 800000 in
theorem wnat_ok (g base v : Nat) (bits : List Bool) (w : World) (hv : v < 18446744073709551616) (hs : bits.length + (natB v).length ≤ 524288) (hst : WrSt w base g bits) :
    Calls Try.prog 181 #[.pointer (some ⟨g, 0, none⟩), .int .u64 v] w fun e w' => e = .returned (.int .i64 0) ∧ WrSt w' base g (bits ++ natB v) ∧ Kp base 5 g w w' := by
  have hg := groups_any v w hv
  have HG := Lib.hid hg
  rw [natB_length] at hs
  have hgl := grp_le v hv
  have hc1 : w.cell? ⟨g, 1, none⟩ = some (.int .i64 bits.length) := by
    obtain ⟨bv, hbk, hown, hbase⟩ := hst
    exact hbk.cell 1
  have HB : Hid (natB v = natP v (grp v) (grp v)) := Lib.hid rfl
  have hv' : v ≤ 18446744073709551615 := by omega
  have HV := Lib.hid hv
  obtain ⟨hg0, hg1⟩ := hgl
  clear hg hv
  generalize grp v = n at *
  go_enter Try.func181, Try.ntmps181
  go_wp2_with fail
  refine HG.out.mono ?_
  rintro e w1 ⟨rfl, rfl⟩
  go_wp2_with fail
  clear hc1
  go_loopw [19] (fun i wr => ∃ k : Nat, k ≤ n ∧ i = .int .i64 k ∧ WrSt wr base g (bits ++ natP v n k) ∧ Kp base 5 g w wr) (fun i _ => n - (intOf i).toNat)
  case atStart => exact ⟨0, Nat.zero_le _, rfl, by simpa [natP] using hst, Kp.refl⟩
  case round =>
    obtain ⟨k, hk, rfl, hwr, hkp⟩ := hrel
    by_cases hlt : k < n
    · by_cases hmore : k + 1 < n
      · have hp := put_grp g base v k n true _ bits wr (by simp [hmore]) (grpval v k 16 HV.out (by omega)) (by omega) hwr
        have HP := Lib.hid hp
        clear hp hwr
        go_wp2_with fail
        refine HP.out.mono ?_
        rintro e w2 ⟨rfl, hwr2, hkp2⟩
        have hkk := hkp.trans hkp2
        go_wp2_with fail
        go_roundw
        case rel => exact ⟨k + 1, by omega, by go_num, hwr2, hkk⟩
        case measure => simp [intOf]; omega
      · have hp := put_grp g base v k n false _ bits wr (by simp [hmore]) (grpval v k 0 HV.out (by omega)) (by omega) hwr
        have HP := Lib.hid hp
        clear hp hwr
        go_wp2_with fail
        refine HP.out.mono ?_
        rintro e w2 ⟨rfl, hwr2, hkp2⟩
        have hkk := hkp.trans hkp2
        go_wp2_with fail
        go_roundw
        case rel => exact ⟨k + 1, by omega, by go_num, hwr2, hkk⟩
        case measure => simp [intOf]; omega
    · obtain rfl : k = n := by omega
      go_wp2_with fail
      go_ret
      exact ⟨rfl, by rw [HB.out]; exact hwr, hkp⟩

theorem wnat_full (g base v : Nat) (bits : List Bool) (w : World) (hv : v < 18446744073709551616) (hs : 524288 < bits.length + (natB v).length) (hl : bits.length ≤ 524288) (hst : WrSt w base g bits) :
    Calls Try.prog 181 #[.pointer (some ⟨g, 0, none⟩), .int .u64 v] w fun e w' => e = .returned (.int .i64 6) ∧ w = w' := by
  have hg := groups_any v w hv
  have HG := Lib.hid hg
  rw [natB_length] at hs
  have hgl := grp_le v hv
  have hc1 : w.cell? ⟨g, 1, none⟩ = some (.int .i64 bits.length) := by
    obtain ⟨bv, hbk, hown, hbase⟩ := hst
    exact hbk.cell 1
  obtain ⟨hg0, hg1⟩ := hgl
  clear hg hv hst
  generalize grp v = n at *
  go_enter Try.func181, Try.ntmps181
  go_wp2_with fail
  refine HG.out.mono ?_
  rintro e w1 ⟨rfl, rfl⟩
  go_wp2_with fail
  go_ret
  exact ⟨rfl, rfl⟩

/-- What a writer's Nat or Int does: it writes all or nothing. -/
def WPost (base g : Nat) (bits more : List Bool) (w : World) (e : Ending) (w' : World) : Prop :=
  ∃ (err : Int) (bits' : List Bool), e = .returned (.int .i64 err) ∧ WrSt w' base g bits' ∧ Kp base 5 g w w' ∧ bits'.length ≤ 524288 ∧ ((err = 0 ∧ bits' = bits ++ more) ∨ (err = 6 ∧ bits' = bits ∧ 524288 < bits.length + more.length))
theorem wnat_any (g base v : Nat) (bits : List Bool) (w : World) (hv : v < 18446744073709551616) (hl : bits.length ≤ 524288) (hst : WrSt w base g bits) :
    Calls Try.prog 181 #[.pointer (some ⟨g, 0, none⟩), .int .u64 v] w (WPost base g bits (natB v) w) := by
  rcases Nat.lt_or_ge 524288 (bits.length + (natB v).length) with h | h
  · exact (wnat_full g base v bits w hv h hl hst).mono fun e w' ⟨he, hw⟩ => by subst hw; exact ⟨6, bits, he, hst, Kp.refl, hl, .inr ⟨rfl, rfl, h⟩⟩
  · exact (wnat_ok g base v bits w hv h hst).mono fun e w' ⟨he, hw, hk⟩ => ⟨0, _, he, hw, hk, by rw [List.length_append]; exact h, .inl ⟨rfl, rfl⟩⟩
theorem wint_any (g base : Nat) (x : Int) (bits : List Bool) (w : World) (h0 : -9223372036854775808 ≤ x) (h1 : x ≤ 9223372036854775807) (hl : bits.length ≤ 524288) (hst : WrSt w base g bits) :
    Calls Try.prog 183 #[.pointer (some ⟨g, 0, none⟩), .int .i64 x] w (WPost base g bits (natB (zig x)) w) := by
  have h := wnat_any g base (zig x) bits w (zig_lt x h0 h1) hl hst
  rw [← zig_eq x h0 h1] at h
  have H := Lib.hid h
  clear h hst hl
  go_enter Try.func183, Try.ntmps183
  go_wp2_with fail
  refine H.out.mono ?_
  rintro e w1 ⟨err, bits', rfl, hw⟩
  go_wp2_with fail
  go_ret
  exact ⟨err, bits', rfl, hw⟩

def encTo (a b : List Int) (hd : List Bool) : Nat → Nat × List Bool
  | 0 => (0, hd)
  | k + 1 => if b.getD k 0 = bse a k then ((encTo a b hd k).1 + 1, (encTo a b hd k).2) else (0, (encTo a b hd k).2 ++ natB (encTo a b hd k).1 ++ natB (zig (wrap64 (b.getD k 0 - bse a k))))
def encH (a b : List Int) : List Bool := bitsOf (sumI a).toNat 64 ++ bitsOf (sumI b).toNat 64 ++ natB b.length
def encEnd (p : Nat × List Bool) : List Bool := if 0 < p.1 then p.2 ++ natB p.1 else p.2
def encB (a b : List Int) : List Bool := encEnd (encTo a b (encH a b) b.length)
theorem encTo_le (a b : List Int) (hd : List Bool) (k : Nat) : (encTo a b hd k).1 ≤ k := by
  induction k with
  | zero => exact Nat.le_refl _
  | succ k ih =>
    unfold encTo
    split
    · show _ + 1 ≤ k + 1; omega
    · exact Nat.zero_le _
def i64r (l : List Int) : Prop := ∀ x ∈ l, -9223372036854775808 ≤ x ∧ x ≤ 9223372036854775807

theorem put64_i (g base : Nat) (V : Int) (bits : List Bool) (w : World) (h0 : 0 ≤ V) (h1 : V < 18446744073709551616) (hs : bits.length + 64 ≤ 524288) (hst : WrSt w base g bits) :
    Calls Try.prog 180 #[.pointer (some ⟨g, 0, none⟩), .int .u64 V, .int .i64 64] w fun e w' => e = .returned (.int .i64 0) ∧ WrSt w' base g (bits ++ bitsOf V.toNat 64) ∧ Kp base 5 g w w' := by
  obtain ⟨v, rfl⟩ := Int.eq_ofNat_of_zero_le h0
  exact put_64 g base v 64 bits w (by omega) (by omega) (by omega) hs hst

/-- What a writer holds while the list is written: all so far, or the limit has been passed. -/
def Full (F : Int) (bits enc : List Bool) : Prop := bits.length ≤ 524288 ∧ ((F = 0 ∧ bits = enc) ∨ (F = 6 ∧ 524288 < enc.length))
theorem Full.step {F e1 e2 : Int} {bits bits1 bits2 enc n1 n2 : List Bool} (h : Full F bits enc) (h1 : (e1 = 0 ∧ bits1 = bits ++ n1) ∨ (e1 = 6 ∧ bits1 = bits ∧ 524288 < bits.length + n1.length))
    (h2 : (e2 = 0 ∧ bits2 = bits1 ++ n2) ∨ (e2 = 6 ∧ bits2 = bits1 ∧ 524288 < bits1.length + n2.length)) (hl : bits2.length ≤ 524288) : Full (max (max F e1) e2) bits2 (enc ++ n1 ++ n2) := by
  refine ⟨hl, ?_⟩
  simp only [List.length_append]
  obtain ⟨_, ⟨rfl, rfl⟩ | ⟨rfl, hF⟩⟩ := h
  · rcases h1 with ⟨rfl, rfl⟩ | ⟨rfl, rfl, h1⟩
    · rcases h2 with ⟨rfl, rfl⟩ | ⟨rfl, rfl, h2⟩
      · left; exact ⟨rfl, rfl⟩
      · right; rw [List.length_append] at h2; exact ⟨rfl, by omega⟩
    · right
      exact ⟨by rcases h2 with ⟨rfl, _⟩ | ⟨rfl, _⟩ <;> rfl, by omega⟩
  · right
    exact ⟨by rcases h1 with ⟨rfl, _⟩ | ⟨rfl, _⟩ <;> rcases h2 with ⟨rfl, _⟩ | ⟨rfl, _⟩ <;> rfl, by omega⟩
theorem max3 (F e1 e2 : Int) : (if (if F < e1 then e1 else F) < e2 then e2 else if F < e1 then e1 else F) = max (max F e1) e2 := by
  by_cases h1 : F < e1
  · rw [if_pos h1]
    by_cases h2 : e1 < e2
    · rw [if_pos h2]; omega
    · rw [if_neg h2]; omega
  · rw [if_neg h1]
    by_cases h2 : F < e2
    · rw [if_pos h2]; omega
    · rw [if_neg h2]; omega
theorem Full.one {F e1 : Int} {bits bits1 enc n1 : List Bool} (h : Full F bits enc) (h1 : (e1 = 0 ∧ bits1 = bits ++ n1) ∨ (e1 = 6 ∧ bits1 = bits ∧ 524288 < bits.length + n1.length)) (hl : bits1.length ≤ 524288) : Full (max F e1) bits1 (enc ++ n1) := by
  refine ⟨hl, ?_⟩
  simp only [List.length_append]
  obtain ⟨_, ⟨rfl, rfl⟩ | ⟨rfl, hF⟩⟩ := h
  · rcases h1 with ⟨rfl, rfl⟩ | ⟨rfl, rfl, h1⟩
    · left; exact ⟨rfl, rfl⟩
    · right; exact ⟨rfl, h1⟩
  · right
    exact ⟨by rcases h1 with ⟨rfl, _⟩ | ⟨rfl, _⟩ <;> rfl, by omega⟩
theorem Full.err {F : Int} {bits enc : List Bool} (h : Full F bits enc) : F = 0 ∨ F = 6 := by
  rcases h.2 with ⟨h, _⟩ | ⟨h, _⟩
  · exact .inl h
  · exact .inr h

def encOk (a b : List Int) : Prop := a.length ≤ 65536 ∧ b.length ≤ 65536 ∧ (encB a b).length ≤ 524288
/-- What delta.Ints returns. -/
def IntsPost (w : World) (a b : List Int) (e : Ending) (w' : World) : Prop :=
  (encOk a b ∧ RetS2 w 5 1 (packB (encB a b)).length (bytesV (packB (encB a b))) 0 e w') ∨ (¬ encOk a b ∧ RetS2 w 5 1 0 [] 2 e w')

set_option maxHeartbeats 1600000 in
theorem ints_any (A A' : Option Addr) (n c n' c' B : Nat) (a b : List Int) (w : World) (hr : Rd w B 1 A n (a.map (Value.int .i64))) (hr' : Rd w B 1 A' n' (b.map (Value.int .i64))) (hn : n = a.length) (hn' : n' = b.length) (hnc : n ≤ 9223372036854775807 ∧ n' ≤ 9223372036854775807) (ha : i64r a) (hb : i64r b) (hB : B ≤ w.heap.size) :
    Calls Try.prog 118 #[.slice A n c, .slice A' n' c'] w (IntsPost w a b) := by
  obtain ⟨hnc1, hnc2⟩ := hnc
  by_cases hbig : 65536 < n ∨ 65536 < n'
  · have hno : ¬ encOk a b := fun h => by have := h.1; have := h.2.1; omega
    have HNO := Lib.hid hno
    clear hr hr' hn hn' hno
    have hcase : 65536 < n ∨ (n ≤ 65536 ∧ 65536 < n') := by omega
    rcases hcase with k1 | ⟨k1, k2⟩
    all_goals
      go_enter Try.func118, Try.ntmps118
      go_wp2_with fail
      go_ret2
      exact .inr ⟨HNO.out, none, 0, rfl, World.ownsRow_nil _ _ _ _, Below.refl _ _⟩
  have k1 : n ≤ 65536 := by omega
  have k2 : n' ≤ 65536 := by omega
  have HR := Lib.hid hr
  have HR' := Lib.hid hr'
  have HN := Lib.hid hn
  have HN' := Lib.hid hn'
  have HA := Lib.hid ha
  have HBB := Lib.hid hb
  clear hr hr' hn hn' ha hb hbig
  go_enter Try.func118, Try.ntmps118
  go_wp2_with fail
  have hb1 := (Below.refl w.heap.size w).alloc (Nat.le_refl _) (.cells #[.slice none 0 0, .int .i64 0] 284)
  have hw1 : WrSt (w.alloc (.cells #[.slice none 0 0, .int .i64 0] 284)) w.heap.size w.heap.size [] := ⟨.slice none 0 0, Bk.new _ _ _, World.ownsRow_nil _ _ _ _, by simp⟩
  generalize w.alloc (.cells #[.slice none 0 0, .int .i64 0] 284) = w1 at *
  have hs1 := hb1.size
  refine (sumInts_any A n c B a w1 (HR.out.below (hb1.mono hB)) HN.out (by omega) (by omega) HA.out).mono ?_
  rintro e w2 ⟨rfl, hb2⟩
  have hw2 := hw1.keep hb2
  have hbb2 := hb1.trans (hb2.mono hs1)
  have hs2 := hbb2.size
  have hra := sumI_rng a
  clear hw1 hb1 hb2 hs1
  go_wp2_with fail
  refine (put64_i w.heap.size w.heap.size (sumI a) [] w2 hra.1 hra.2 (by simp) hw2).mono ?_
  rintro e w3 ⟨rfl, hw3, hk3⟩
  have hbb3 := hbb2.trans (hk3.below (Nat.le_refl _) hs2)
  have hs3 := hbb3.size
  clear hw2 hk3 hbb2 hs2 hra
  go_wp2_with fail
  refine (sumInts_any A' n' c' B b w3 (HR'.out.below (hbb3.mono hB)) HN'.out (by omega) (by omega) HBB.out).mono ?_
  rintro e w4 ⟨rfl, hb4⟩
  have hw4 := hw3.keep hb4
  have hbb4 := hbb3.trans (hb4.mono hs3)
  have hs4 := hbb4.size
  have hrb := sumI_rng b
  clear hw3 hb4 hbb3 hs3
  go_wp2_with fail
  refine (put64_i w.heap.size w.heap.size (sumI b) _ w4 hrb.1 hrb.2 (by simp [bitsOf_length]) hw4).mono ?_
  rintro e w5 ⟨rfl, hw5, hk5⟩
  have hbb5 := hbb4.trans (hk5.below (Nat.le_refl _) hs4)
  have hs5 := hbb5.size
  clear hw4 hk5 hbb4 hs4 hrb
  have hgl := grp_le n' (by omega)
  have hnat := wnat_ok w.heap.size w.heap.size n' _ w5 (by omega) (by rw [natB_length]; simp [bitsOf_length]; omega) hw5
  have HNAT := Lib.hid hnat
  clear hnat hgl
  go_wp2_with fail
  refine HNAT.out.mono ?_
  rintro e w6 ⟨rfl, hw6, hk6⟩
  have hbb6 := hbb5.trans (hk6.below (Nat.le_refl _) hs5)
  have hs6 := hbb6.size
  have HENC : Hid (([] ++ bitsOf (sumI a).toNat 64 ++ bitsOf (sumI b).toNat 64) ++ natB n' = encH a b) := Lib.hid (by rw [HN'.out]; rfl)
  rw [HENC.out] at hw6
  have HL6 : Hid ((encH a b).length ≤ 524288) := Lib.hid (by
    have hgl := grp_le n' (by omega)
    unfold encH
    rw [← HN'.out, List.length_append, List.length_append, bitsOf_length, bitsOf_length, natB_length]; omega)
  clear hw5 hk6 hbb5 hs5 HENC HNAT
  go_wp2_with fail
  obtain ⟨B0, hB0⟩ : ∃ B0, B0 = w.heap.size := ⟨_, rfl⟩
  rw [← hB0] at hbb6 hw6 hs6 hB ⊢
  have HB0 := Lib.hid hB0
  clear hB0
  go_loopw [7, 8, 36] (fun sa fu v wr => ∃ (k S : Nat) (F : Int) (bits : List Bool), k ≤ n' ∧ v = .int .i64 k ∧ sa = .int .i64 S ∧ fu = .int .i64 F ∧ S ≤ k ∧ Hid (S = (encTo a b (encH a b) k).1) ∧ Hid (Full F bits (encTo a b (encH a b) k).2) ∧ WrSt wr B0 B0 bits ∧ Below B0 w wr) (fun _ _ v _ => n' - (intOf v).toNat)
  case atStart => exact ⟨0, 0, 0, encH a b, Nat.zero_le _, rfl, rfl, rfl, Nat.le_refl _, Lib.hid rfl, Lib.hid ⟨HL6.out, .inl ⟨rfl, rfl⟩⟩, hw6, hbb6⟩
  case round =>
    obtain ⟨k, S, F, bits, hk, rfl, rfl, rfl, hSk, HS, HF, hwr, hb⟩ := hrel
    have hsz : B0 ≤ wr.heap.size := by have := hb.size; have := HB0.out; omega
    clear hw6 hbb6 hs6
    by_cases hlt : k < n'
    · obtain ⟨x, hx⟩ : ∃ x, b[k]? = some x := ⟨_, List.getElem?_eq_getElem (by have := HN'.out; omega)⟩
      obtain ⟨xb, xo, rfl, _, hcx⟩ := (HR'.out.below (hb.mono hB)).at1 hlt (u := .int .i64 x) (by rw [List.getElem?_map, hx]; rfl)
      have hget : b.getD k 0 = x := by simp [List.getD, hx]
      have hba := base_any A n c B k a wr (HR.out.below (hb.mono hB)) HN.out (by omega) (by omega)
      have HBA := Lib.hid hba
      obtain ⟨y, hy⟩ : ∃ y, y = bse a k := ⟨_, rfl⟩
      have HY := Lib.hid hy
      have HG := Lib.hid hget
      rw [← hy] at hba
      replace HBA := Lib.hid hba
      clear hba hy hget hx
      go_wp2_with fail
      refine HBA.out.mono ?_
      rintro e w7 ⟨rfl, rfl⟩
      by_cases hxy : (x == y) = true
      · have hnx : encTo a b (encH a b) (k + 1) = (S + 1, (encTo a b (encH a b) k).2) := by
          have : b.getD k 0 = bse a k := by rw [HG.out, ← HY.out]; simpa using hxy
          rw [encTo, if_pos this, ← HS.out]
        have HNX := Lib.hid hnx
        clear hnx
        go_wp2_with fail
        go_roundw
        case rel => exact ⟨k + 1, S + 1, F, bits, by omega, by go_num, by go_num, rfl, by omega, Lib.hid (by rw [HNX.out]), Lib.hid (by rw [HNX.out]; exact HF.out), hwr, hb⟩
        case measure => simp [intOf]; omega
      · have hxy' : (x == y) = false := by simpa using hxy
        have hnx : encTo a b (encH a b) (k + 1) = (0, (encTo a b (encH a b) k).2 ++ natB S ++ natB (zig (wrap64 (x - y)))) := by
          have : ¬ b.getD k 0 = bse a k := by rw [HG.out, ← HY.out]; simpa using hxy
          rw [encTo, if_neg this, ← HS.out, HG.out, ← HY.out]
        have HNX := Lib.hid hnx
        clear hnx hxy
        go_wp2_with fail
        refine (wnat_any B0 B0 S bits _ (by omega) HF.out.1 hwr).mono ?_
        rintro e w8 ⟨err1, bits1, rfl, hw8, hk8, hl8, h8⟩
        have hb8 := hb.trans (hk8.below (Nat.le_refl _) hsz)
        have hs8 : B0 ≤ w8.heap.size := by have := hb8.size; have := HB0.out; omega
        have H8 := Lib.hid h8
        have hba := base_any A n c B k a w8 (HR.out.below (hb8.mono hB)) HN.out (by omega) (by omega)
        rw [← HY.out] at hba
        have HBA := Lib.hid hba
        clear h8 hwr hk8 hb hba
        go_wp2_with fail
        refine HBA.out.mono ?_
        rintro e w9 ⟨rfl, rfl⟩
        go_wp2_with fail
        have hwr9 : -9223372036854775808 ≤ wrap64 (x - y) ∧ wrap64 (x - y) ≤ 9223372036854775807 := by unfold wrap64; omega
        refine (wint_any B0 B0 (wrap64 (x - y)) bits1 _ hwr9.1 hwr9.2 hl8 hw8).mono ?_
        rintro e w10 ⟨err2, bits2, rfl, hw10, hk10, hl10, h10⟩
        have hb10 := hb8.trans (hk10.below (Nat.le_refl _) hs8)
        have hfull := HF.out.step H8.out h10 hl10
        have HFULL := Lib.hid hfull
        clear hwr9 hw8 hk10 h10 hfull hb8 hl8
        go_wp2_with fail
        go_roundw
        case rel => exact ⟨k + 1, 0, _, bits2, by omega, by go_num, rfl, rfl, by omega, Lib.hid (by rw [HNX.out]), Lib.hid (by rw [HNX.out, max3]; exact HFULL.out), hw10, hb10⟩
        case measure => simp [intOf]; omega
    · obtain rfl : k = n' := by omega
      have hend : ∀ (F' : Int) (bits' : List Bool), Full F' bits' (encB a b) → (F' = 0 ∧ bits' = encB a b ∧ encOk a b ∧ bits'.length ≤ 524288) ∨ (F' = 6 ∧ ¬ encOk a b) := fun F' bits' h => by
        have h1 := HN.out
        have h2 := HN'.out
        obtain ⟨h3, ⟨h4, h5⟩ | ⟨h4, h5⟩⟩ := h
        · left; exact ⟨h4, h5, ⟨by omega, by omega, by rw [← h5]; exact h3⟩, h3⟩
        · right; exact ⟨h4, fun h => by have := h.2.2; omega⟩
      have HEND := Lib.hid hend
      have henc : encB a b = encEnd (encTo a b (encH a b) k) := by unfold encB; rw [← HN'.out]
      clear hend
      by_cases hS : 0 < S
      · have he2 : encB a b = (encTo a b (encH a b) k).2 ++ natB S := by
          rw [henc]; unfold encEnd; rw [← HS.out, if_pos hS]
        have HE2 := Lib.hid he2
        clear he2 henc
        go_wp2_with fail
        refine (wnat_any B0 B0 S bits _ (by omega) HF.out.1 hwr).mono ?_
        rintro e w8 ⟨err1, bits1, rfl, hw8, hk8, hl8, h8⟩
        have hb8 := hb.trans (hk8.below (Nat.le_refl _) hsz)
        have hfull := HF.out.one h8 hl8
        rw [← HE2.out] at hfull
        have hcase := HEND.out _ _ hfull
        clear hfull hwr hk8 hb h8
        rcases hcase with ⟨hmx, hbe, hok, hbl⟩ | ⟨hmx, hno⟩
        · have HOK := Lib.hid hok
          have HBE := Lib.hid hbe
          clear hbe hok
          go_wp2_with fail
          refine (wbytes_any B0 B0 bits1 w8 hw8 hbl).mono ?_
          rintro e w9 ⟨A9, c9, rfl, hown9, hb9⟩
          have hb8s : B0 ≤ w8.heap.size := by have := hb8.size; have := HB0.out; omega
          go_wp2_with fail
          go_ret2
          refine .inl ⟨HOK.out, A9, c9, ?_, ?_, ?_⟩
          · rw [← HBE.out]; rfl
          · rw [← HB0.out, ← HBE.out]; exact own_mono hown9 hb8s
          · rw [← HB0.out]; exact hb8.trans (hb9.mono hb8s)
        · have HNO := Lib.hid hno
          clear hno
          go_wp2_with fail
          go_ret2
          exact .inr ⟨HNO.out, none, 0, rfl, World.ownsRow_nil _ _ _ _, by rw [← HB0.out]; exact hb8⟩
      · have he2 : encB a b = (encTo a b (encH a b) k).2 := by
          rw [henc]; unfold encEnd; rw [← HS.out, if_neg hS]
        have hcase := HEND.out F bits (by rw [he2]; exact HF.out)
        clear he2 henc HF
        rcases hcase with ⟨rfl, hbe, hok, hbl⟩ | ⟨rfl, hno⟩
        · have HOK := Lib.hid hok
          have HBE := Lib.hid hbe
          clear hbe hok
          go_wp2_with fail
          refine (wbytes_any B0 B0 bits wr hwr hbl).mono ?_
          rintro e w9 ⟨A9, c9, rfl, hown9, hb9⟩
          go_wp2_with fail
          go_ret2
          refine .inl ⟨HOK.out, A9, c9, ?_, ?_, ?_⟩
          · rw [← HBE.out]; rfl
          · rw [← HB0.out, ← HBE.out]; exact own_mono hown9 hsz
          · rw [← HB0.out]; exact hb.trans (hb9.mono hsz)
        · have HNO := Lib.hid hno
          clear hno
          go_wp2_with fail
          go_ret2
          exact .inr ⟨HNO.out, none, 0, rfl, World.ownsRow_nil _ _ _ _, by rw [← HB0.out]; exact hb⟩
end Go.Proofs.Ytnidcmhfbkdioaa
