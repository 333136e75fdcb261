/-
  Numbers in groups of four bits: plain lemmas; the contracts of groups, Nat and Int of a writer; delta.base. Conditions: numbers that fit their kinds.
-/
import Derived.Test.YtlgcdcjfobfoiaaDa
namespace Go.Proofs.Ytlgcdcjfobfoiaa
open Go.RowKit
set_option maxRecDepth 100000

def grp (v : Nat) : Nat := Nat.log2 v / 4 + 1
theorem pow16 (k : Nat) : 16 ^ k = 2 ^ (4 * k) := by rw [Nat.pow_mul]
theorem grp_of (v k : Nat) (h1 : 1 ≤ k) (h2 : v / 16 ^ k = 0) (h3 : k = 1 ∨ v / 16 ^ (k - 1) ≠ 0) : grp v = k := by
  have hlt : v < 2 ^ (4 * k) := by
    rw [← pow16]
    rcases Nat.div_eq_zero_iff.1 h2 with h | h
    · have := Nat.pow_pos (n := k) (show 0 < 16 by omega); omega
    · exact h
  unfold grp
  by_cases hv : v = 0
  · subst hv
    rcases h3 with h3 | h3
    · subst h3; rfl
    · simp at h3
  · have hl : v.log2 < 4 * k := (Nat.log2_lt hv).2 hlt
    rcases h3 with h3 | h3
    · subst h3; omega
    · have hge : 2 ^ (4 * (k - 1)) ≤ v := by
        rw [← pow16]
        rcases Nat.lt_or_ge v (16 ^ (k - 1)) with h | h
        · exact absurd (Nat.div_eq_of_lt h) h3
        · exact h
      have := (Nat.le_log2 hv).2 hge
      omega
theorem grp_le (v : Nat) (h : v < 18446744073709551616) : 1 ≤ grp v ∧ grp v ≤ 16 := by
  unfold grp
  by_cases hv : v = 0
  · subst hv; decide
  · have : v.log2 < 64 := (Nat.log2_lt hv).2 h
    omega

/-- The bits of a number in groups. -/
def natP (v n k : Nat) : List Bool := (List.range k).flatMap fun j => bitsOf (v / 16 ^ j % 16) 4 ++ [decide (j + 1 < n)]
def natB (v : Nat) : List Bool := natP v (grp v) (grp v)
theorem natP_succ (v n k : Nat) : natP v n (k + 1) = natP v n k ++ (bitsOf (v / 16 ^ k % 16) 4 ++ [decide (k + 1 < n)]) := by
  unfold natP; rw [List.range_succ, List.flatMap_append]; simp
theorem natP_length (v n k : Nat) : (natP v n k).length = 5 * k := by
  induction k with
  | zero => rfl
  | succ k ih => rw [natP_succ, List.length_append, ih, List.length_append, bitsOf_length]; simp; omega
theorem natB_length (v : Nat) : (natB v).length = 5 * grp v := natP_length _ _ _
theorem bits5 (a : Nat) (b : Bool) (h : a < 16) : bitsOf (a ||| (if b then 16 else 0)) 5 = bitsOf a 4 ++ [b] := by
  have : ∀ a, a < 16 → ∀ b : Bool, bitsOf (a ||| (if b then 16 else 0)) 5 = bitsOf a 4 ++ [b] := by decide
  exact this a h b
theorem or_lt32 (a : Nat) (b : Bool) (h : a < 16) : a ||| (if b then 16 else 0) < 32 := by
  have : ∀ a, a < 16 → ∀ b : Bool, a ||| (if b then 16 else 0) < 32 := by decide
  exact this a h b

set_option maxHeartbeats 800000 in
theorem groups_any (v : Nat) (w : World) (hv : v < 18446744073709551616) : Calls Try.prog 98 #[.int .u64 v] w fun e w' => e = .returned (.int .i64 (grp v)) ∧ w = w' := by
  have HV := Lib.hid hv
  have hv' : v ≤ 18446744073709551615 := by omega
  clear hv
  go_enter Try.func98, Try.ntmps98
  go_wp2_with fail
  go_loopw [0, 3] (fun x n wr => ∃ (k a : Nat), 1 ≤ k ∧ n = .int .i64 k ∧ x = .int .u64 a ∧ Hid (a = v / 16 ^ k ∧ (k = 1 ∨ v / 16 ^ (k - 1) ≠ 0)) ∧ k ≤ 17 ∧ a ≤ 18446744073709551615 ∧ wr = w) (fun x _ _ => (intOf x).toNat)
  case atStart => exact ⟨1, v / 16, Nat.le_refl _, rfl, by simp, Lib.hid ⟨by simp, .inl rfl⟩, by omega, by omega, rfl⟩
  case round =>
    obtain ⟨k, a, hk, rfl, rfl, HA, hk17, ha, rfl⟩ := hrel
    by_cases hp : 0 < a
    · have hk16 : k ≤ 16 := by
        have h1 := HA.out.1
        rcases Nat.lt_or_ge 16 k with h | h
        · have : v / 16 ^ k = 0 := by
            have h2 : k = 17 := by omega
            rw [h2]
            exact Nat.div_eq_of_lt (by have := HV.out; omega)
          omega
        · exact h
      have hnext : a / 16 = v / 16 ^ (k + 1) ∧ (k + 1 = 1 ∨ v / 16 ^ (k + 1 - 1) ≠ 0) := by
        refine ⟨?_, .inr ?_⟩
        · rw [HA.out.1, Nat.div_div_eq_div_mul, Nat.pow_succ]
        · rw [Nat.add_sub_cancel, ← HA.out.1]; omega
      have HNX := Lib.hid hnext
      clear hnext
      go_wp2_with fail
      go_roundw
      case rel => exact ⟨k + 1, a / 16, by omega, by go_num, by simp, HNX, by omega, by omega, trivial⟩
      case measure => simp [intOf]; omega
    · obtain rfl : a = 0 := by omega
      have hg : grp v = k := grp_of v k hk HA.out.1.symm HA.out.2
      have HGR := Lib.hid hg
      clear hg hp
      go_wp2_with fail
      go_ret
      exact ⟨by rw [HGR.out]; rfl, rfl⟩

def bse (a : List Int) (i : Nat) : Int := a.getD i 0
theorem base_any (A : Option Addr) (n c B i : Nat) (a : List Int) (w : World) (hr : Rd w B 1 A n (a.map (Value.int .i64))) (hn : n = a.length) (hn1 : n ≤ 1000000000) (hi : i ≤ 1000000000) :
    Calls Try.prog 85 #[.slice A n c, .int .i64 i] w fun e w' => e = .returned (.int .i64 (bse a i)) ∧ w = w' := by
  by_cases hlt : i < n
  · obtain ⟨x, hx⟩ : ∃ x, a[i]? = some x := ⟨_, List.getElem?_eq_getElem (by omega)⟩
    obtain ⟨b, o, rfl, _, hcx⟩ := hr.at1 hlt (u := .int .i64 x) (by rw [List.getElem?_map, hx]; rfl)
    have he : bse a i = x := by simp [bse, List.getD, hx]
    have HE := Lib.hid he
    clear he hx hr hn
    go_enter Try.func85, Try.ntmps85
    go_wp2_with fail
    go_ret
    exact ⟨by rw [HE.out]; rfl, rfl⟩
  · have he : bse a i = 0 := by simp [bse, List.getD, List.getElem?_eq_none (show a.length ≤ i by omega)]
    have HE := Lib.hid he
    clear he hr hn
    go_enter Try.func85, Try.ntmps85
    go_wp2_with fail
    go_ret
    exact ⟨by rw [HE.out]; rfl, rfl⟩

/-- A number with a sign as one without. -/
def zig (x : Int) : Nat := if x < 0 then (2 * (-(x + 1)) + 1).toNat else (2 * x).toNat
theorem zig_lt (x : Int) (h0 : -9223372036854775808 ≤ x) (h1 : x ≤ 9223372036854775807) : zig x < 18446744073709551616 := by
  unfold zig; split <;> omega
theorem bvxor (a b : Nat) (ha : a < 18446744073709551616) (hb : b < 18446744073709551616) : Go.bits .xor .u64 (a : Int) (b : Int) = ((a ^^^ b : Nat) : Int) := by
  have hx : a ^^^ b < 2 ^ 64 := Nat.xor_lt_two_pow ha hb
  show IntKind.u64.wrap ((BitVec.ofInt 64 (a : Int) ^^^ BitVec.ofInt 64 (b : Int)).toNat : Int) = _
  rw [BitVec.toNat_xor, BitVec.ofInt_natCast, BitVec.ofInt_natCast, BitVec.toNat_ofNat, BitVec.toNat_ofNat, Nat.mod_eq_of_lt ha, Nat.mod_eq_of_lt hb, IntKind.wrap_u64]
  omega
theorem xor_ones (a : Nat) (ha : a < 18446744073709551616) : a ^^^ 18446744073709551615 = 18446744073709551615 - a := by
  have h1 := congrArg BitVec.toNat (BitVec.xor_allOnes (x := BitVec.ofNat 64 a))
  rw [BitVec.toNat_xor, BitVec.toNat_not, BitVec.toNat_allOnes, BitVec.toNat_ofNat, Nat.mod_eq_of_lt ha] at h1
  exact h1
theorem zig_eq (x : Int) (h0 : -9223372036854775808 ≤ x) (h1 : x ≤ 9223372036854775807) :
    Go.bits .xor .u64 (IntKind.u64.wrap (IntKind.u64.wrap x * 2)) (IntKind.u64.wrap (x / 9223372036854775808)) = (zig x : Int) := by
  unfold zig
  by_cases hx : x < 0
  · rw [if_pos hx]
    have e1 : IntKind.u64.wrap (IntKind.u64.wrap x * 2) = ((18446744073709551616 + 2 * x).toNat : Int) := by
      rw [IntKind.wrap_u64, IntKind.wrap_u64]; omega
    have e2 : IntKind.u64.wrap (x / 9223372036854775808) = ((18446744073709551615 : Nat) : Int) := by
      rw [IntKind.wrap_u64]; omega
    rw [e1, e2, bvxor _ _ (by omega) (by omega), xor_ones _ (by omega)]
    omega
  · rw [if_neg hx]
    have e1 : IntKind.u64.wrap (IntKind.u64.wrap x * 2) = ((2 * x).toNat : Int) := by
      rw [IntKind.wrap_u64, IntKind.wrap_u64]; omega
    have e2 : IntKind.u64.wrap (x / 9223372036854775808) = ((0 : Nat) : Int) := by
      rw [IntKind.wrap_u64]; omega
    rw [e1, e2, bvxor _ _ (by omega) (by omega), Nat.xor_zero]
end Go.Proofs.Ytlgcdcjfobfoiaa
