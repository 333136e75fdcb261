/-
  Plain laws on lists of bits and the bytes that they are packed into. Nothing of the program. No condition.
-/
import Derived.Test.YtlgcdcjfobfoiaaKit
namespace Go.Proofs.Ytlgcdcjfobfoiaa

/-- The n lowest bits of v, the lowest one first. -/
def bitsOf (v n : Nat) : List Bool := (List.range n).map v.testBit
theorem bitsOf_length (v n : Nat) : (bitsOf v n).length = n := by simp [bitsOf]
theorem bitsOf_succ (v n : Nat) : bitsOf v (n + 1) = bitsOf v n ++ [v.testBit n] := by simp [bitsOf, List.range_succ]
theorem bitsOf_zero (v : Nat) : bitsOf v 0 = [] := rfl

/-- One bit more behind m bits. -/
def pushB (bs : List Nat) (m : Nat) (x : Bool) : List Nat :=
  if m % 8 = 0 then bs ++ [x.toNat] else bs.set (m / 8) (bs.getD (m / 8) 0 + x.toNat * 2 ^ (m % 8))
/-- The bytes of bits. -/
def packB (l : List Bool) : List Nat := (l.foldl (fun (p : List Nat × Nat) x => (pushB p.1 p.2 x, p.2 + 1)) ([], 0)).1
theorem packB_snd (l : List Bool) (p : List Nat × Nat) : (l.foldl (fun (p : List Nat × Nat) x => (pushB p.1 p.2 x, p.2 + 1)) p).2 = p.2 + l.length := by
  induction l generalizing p with
  | nil => rfl
  | cons a l ih => simp only [List.foldl_cons, ih, List.length_cons]; omega
theorem packB_nil : packB [] = [] := rfl
theorem packB_snoc (l : List Bool) (x : Bool) : packB (l ++ [x]) = pushB (packB l) l.length x := by
  unfold packB
  rw [List.foldl_append]
  simp only [List.foldl_cons, List.foldl_nil]
  rw [packB_snd]; simp

theorem snoc_ind {α : Type} {p : List α → Prop} (h0 : p []) (hs : ∀ l x, p l → p (l ++ [x])) (l : List α) : p l := by
  rw [← List.reverse_reverse l]
  induction l.reverse with
  | nil => exact h0
  | cons a t ih => rw [List.reverse_cons]; exact hs _ _ ih

theorem packB_length (l : List Bool) : (packB l).length = (l.length + 7) / 8 := by
  induction l using snoc_ind with
  | h0 => rfl
  | hs l x ih =>
    rw [packB_snoc, pushB, List.length_append, List.length_singleton]
    split
    · rw [List.length_append, ih, List.length_singleton]; omega
    · rw [List.length_set, ih]; omega

/-- All bytes are below 256; the last one holds no bit beyond those that were pushed. -/
theorem packB_lt (l : List Bool) : (∀ b ∈ packB l, b < 256) ∧ (l.length % 8 ≠ 0 → (packB l).getD (l.length / 8) 0 < 2 ^ (l.length % 8)) := by
  induction l using snoc_ind with
  | h0 => exact ⟨by simp [packB_nil], by simp⟩
  | hs l x ih =>
    obtain ⟨ih1, ih2⟩ := ih
    have hl := packB_length l
    rw [packB_snoc, pushB, List.length_append, List.length_singleton]
    have hx : x.toNat ≤ 1 := Bool.toNat_le x
    by_cases h : l.length % 8 = 0
    · rw [if_pos h]
      refine ⟨fun b hb => ?_, fun _ => ?_⟩
      · rcases List.mem_append.1 hb with hb | hb
        · exact ih1 b hb
        · simp at hb; omega
      · have h8 : (l.length + 1) / 8 = (packB l).length := by omega
        have h1 : (l.length + 1) % 8 = 1 := by omega
        rw [h8, h1]; simp [List.getD]; omega
    · rw [if_neg h]
      have hlt : l.length / 8 < (packB l).length := by omega
      have hold := ih2 h
      have hnew : (packB l).getD (l.length / 8) 0 + x.toNat * 2 ^ (l.length % 8) < 2 ^ (l.length % 8 + 1) := by
        rw [Nat.pow_succ]
        have : x.toNat * 2 ^ (l.length % 8) ≤ 1 * 2 ^ (l.length % 8) := Nat.mul_le_mul_right _ hx
        omega
      have h256 : 2 ^ (l.length % 8 + 1) ≤ 2 ^ 8 := Nat.pow_le_pow_right (by omega) (by omega)
      refine ⟨fun b hb => ?_, fun h2 => ?_⟩
      · rcases List.mem_or_eq_of_mem_set hb with hb | rfl
        · exact ih1 b hb
        · omega
      · have h8 : (l.length + 1) / 8 = l.length / 8 := by omega
        have h1 : (l.length + 1) % 8 = l.length % 8 + 1 := by omega
        rw [h8, h1]
        rw [List.getD_eq_getElem?_getD, List.getElem?_set_self hlt]
        exact hnew

/-- Bit i of the bytes is bit i of the list. -/
theorem packB_bit (l : List Bool) : ∀ i, i < l.length → ((packB l).getD (i / 8) 0).testBit (i % 8) = l.getD i false := by
  induction l using snoc_ind with
  | h0 => intro i hi; simp at hi
  | hs l x ih =>
    intro i hi
    rw [List.length_append, List.length_singleton] at hi
    have hl := packB_length l
    rw [packB_snoc, pushB]
    by_cases h : l.length % 8 = 0
    · rw [if_pos h]
      by_cases hi' : i < l.length
      · rw [List.getD_eq_getElem?_getD, List.getElem?_append_left (by omega), ← List.getD_eq_getElem?_getD, ih i hi']
        rw [List.getD_eq_getElem?_getD, List.getD_eq_getElem?_getD, List.getElem?_append_left hi']
      · obtain rfl : i = l.length := by omega
        rw [List.getD_eq_getElem?_getD, List.getElem?_append_right (by omega), List.getD_eq_getElem?_getD, List.getElem?_append_right (Nat.le_refl _)]
        rw [show l.length / 8 - (packB l).length = 0 by omega, h]
        cases x <;> simp
    · rw [if_neg h]
      have hlt : l.length / 8 < (packB l).length := by omega
      have hold := (packB_lt l).2 h
      by_cases hi' : i < l.length
      · have hr : (l ++ [x]).getD i false = l.getD i false := by
          rw [List.getD_eq_getElem?_getD, List.getD_eq_getElem?_getD, List.getElem?_append_left hi']
        rw [hr, ← ih i hi']
        by_cases h8 : i / 8 = l.length / 8
        · rw [h8, List.getD_eq_getElem?_getD, List.getElem?_set_self hlt, Option.getD_some]
          have hm : i % 8 < l.length % 8 := by omega
          rw [Nat.add_comm, Nat.mul_comm, Nat.testBit_two_pow_mul_add _ hold]
          simp [hm]
        · rw [List.getD_eq_getElem?_getD, List.getElem?_set_ne (by omega), ← List.getD_eq_getElem?_getD]
      · obtain rfl : i = l.length := by omega
        rw [List.getD_eq_getElem?_getD, List.getElem?_set_self hlt, Option.getD_some]
        rw [Nat.add_comm, Nat.mul_comm, Nat.testBit_two_pow_mul_add _ hold]
        cases x <;> simp [List.getD_eq_getElem?_getD]

theorem packB_or (l : List Bool) (x : Bool) (h : l.length % 8 ≠ 0) : (packB l).getD (l.length / 8) 0 ||| (x.toNat <<< (l.length % 8)) = (packB l).getD (l.length / 8) 0 + x.toNat * 2 ^ (l.length % 8) := by
  have := (packB_lt l).2 h
  rw [Nat.or_comm, Nat.shiftLeft_eq, Nat.mul_comm, ← Nat.two_pow_add_eq_or_of_lt this, Nat.add_comm]

end Go.Proofs.Ytlgcdcjfobfoiaa
