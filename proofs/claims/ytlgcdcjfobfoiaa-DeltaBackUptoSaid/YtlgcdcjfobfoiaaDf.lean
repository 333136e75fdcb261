/-
  The contracts of a reader's Int and of delta.body. Conditions: a reader in memory, sizes within the reach.
-/
import Derived.Test.YtlgcdcjfobfoiaaDe
import Derived.Test.YtlgcdcjfobfoiaaSl
namespace Go.Proofs.Ytlgcdcjfobfoiaa
open Go.RowKit
set_option maxRecDepth 100000

def zag (v : Nat) : Int := if v % 2 = 0 then (v / 2 : Nat) else -((v / 2 : Nat) : Int) - 1
theorem zag_zig (x : Int) (h0 : -9223372036854775808 ≤ x) (h1 : x ≤ 9223372036854775807) : zag (zig x) = x := by
  unfold zag zig
  split
  · split <;> omega
  · split <;> omega
theorem zag_eq (v : Nat) (hv : v < 18446744073709551616) : wrap64 (Go.bits .xor .u64 ((v : Int) / 2) (IntKind.u64.wrap (-(Go.bits .and .u64 (v : Int) 1)))) = zag v := by
  have e0 : (v : Int) / 2 = ((v / 2 : Nat) : Int) := by norm_cast
  rw [show (1 : Int) = ((1 : Nat) : Int) from rfl, bvand _ _ hv (by omega), show v &&& 1 = v % 2 from Nat.and_one_is_mod v, e0]
  unfold zag
  by_cases h : v % 2 = 0
  · rw [if_pos h, h]
    have e1 : IntKind.u64.wrap (-((0 : Nat) : Int)) = ((0 : Nat) : Int) := by rw [IntKind.wrap_u64]; omega
    rw [e1, bvxor _ _ (by omega) (by omega), Nat.xor_zero]
    unfold wrap64; omega
  · have h1 : v % 2 = 1 := by omega
    rw [if_neg h, h1]
    have e1 : IntKind.u64.wrap (-((1 : Nat) : Int)) = ((18446744073709551615 : Nat) : Int) := by rw [IntKind.wrap_u64]; omega
    rw [e1, bvxor _ _ (by omega) (by omega), xor_ones _ (by omega)]
    unfold wrap64; omega
theorem rdN_lt (l : List Nat) (p0 : Nat) : ∀ (f i v p : Nat), v < 16 ^ i → i ≤ 16 → (rdN l p0 f i v p).2.1 < 18446744073709551616 := by
  intro f
  induction f with
  | zero => intro i v p _ _; simp [rdN]
  | succ f ih =>
    intro i v p hv hi
    unfold rdN
    split
    · simp
    · split
      · simp
      · rename_i h1 h2
        have hi2 : i < 16 := by
          rcases Nat.lt_or_ge i 16 with h | h
          · exact h
          · exact absurd (.inl (by omega)) h2
        have h3 : v + valAt l p 5 % 16 * 16 ^ i < 16 ^ (i + 1) := by
          have h4 : valAt l p 5 % 16 * 16 ^ i ≤ 15 * 16 ^ i := Nat.mul_le_mul_right _ (by omega)
          rw [Nat.pow_succ]; omega
        split
        · have : 16 ^ (i + 1) ≤ 16 ^ 16 := Nat.pow_le_pow_right (by omega) (by omega)
          have h5 : (16 : Nat) ^ 16 = 18446744073709551616 := by decide
          show v + valAt l p 5 % 16 * 16 ^ i < _
          omega
        · exact ih _ _ _ h3 (by omega)
theorem rdNat_lt (l : List Nat) (p : Nat) : (rdNat l p).2.1 < 18446744073709551616 := rdN_lt l p 17 0 0 p (by simp) (by omega)
theorem rdN_err (l : List Nat) (p0 : Nat) : ∀ (f i v p : Nat), (rdN l p0 f i v p).1 = 0 ∨ (rdN l p0 f i v p).1 = 3 ∨ (rdN l p0 f i v p).1 = 14 := by
  intro f
  induction f with
  | zero => intro i v p; simp [rdN]
  | succ f ih =>
    intro i v p
    unfold rdN
    split
    · simp
    · split
      · simp
      · split
        · simp
        · exact ih _ _ _

def RIPost (w : World) (base g : Nat) (l : List Nat) (p : Nat) (e : Ending) (w' : World) : Prop :=
  e = .returned (.tuple #[.int .i64 (if (rdNat l p).1 = 0 then zag (rdNat l p).2.1 else 0), .int .i64 (rdNat l p).1]) ∧ RdrSt w' base g l (rdNat l p).2.2 ∧ (rdNat l p).2.2 ≤ 8 * l.length ∧ w.grownBy w' (some g) ∧ w'.heap.size = w.heap.size
set_option maxHeartbeats 800000 in
theorem rint_any (g base : Nat) (l : List Nat) (p : Nat) (w : World) (hst : RdrSt w base g l p) (hp : p ≤ 8 * l.length) (hs : l.length ≤ 140737488355328) (hb : ∀ b ∈ l, b < 256) :
    Calls Try.prog 101 #[.pointer (some ⟨g, 0, none⟩)] w (RIPost w base g l p) := by
  have hn := rnat_any g base l p w hst hp hs hb
  have HN := Lib.hid hn
  have hlt := rdNat_lt l p
  have herr : (rdNat l p).1 = 0 ∨ (rdNat l p).1 = 3 ∨ (rdNat l p).1 = 14 := rdN_err l p 17 0 0 p
  clear hn hst hp hs hb
  go_enter Try.func101, Try.ntmps101
  go_wp2_with fail
  refine HN.out.mono ?_
  rintro e w1 ⟨rfl, h1, h2, h3, h4⟩
  obtain ⟨⟨err, v, q⟩, hr⟩ : ∃ r, r = rdNat l p := ⟨_, rfl⟩
  rw [← hr] at h1 h2 hlt herr ⊢
  have HR := Lib.hid hr
  have H1 := Lib.hid h1
  have H2 := Lib.hid h2
  have H3 := Lib.hid h3
  have H4 := Lib.hid h4
  have hz := zag_eq v hlt
  have HZ := Lib.hid hz
  clear h1 h2 h3 h4 hz hr
  simp only at herr hlt
  rcases herr with rfl | rfl | rfl
  · have hlt' : v ≤ 18446744073709551615 := by omega
    clear hlt
    go_wp2_with fail
    go_ret2
    unfold RIPost
    rw [← HR.out]
    exact ⟨congrArg (fun z => Ending.returned (.tuple #[.int .i64 z, .int .i64 0])) HZ.out, H1.out, H2.out, H3.out, H4.out⟩
  · clear hlt
    go_wp2_with fail
    go_ret2
    unfold RIPost
    rw [← HR.out]
    exact ⟨rfl, H1.out, H2.out, H3.out, H4.out⟩
  · clear hlt
    go_wp2_with fail
    go_ret2
    unfold RIPost
    rw [← HR.out]
    exact ⟨rfl, H1.out, H2.out, H3.out, H4.out⟩
end Go.Proofs.Ytlgcdcjfobfoiaa
