/-
  The walk of DeltaBack. Conditions: what came in can be read; lists of at most 1048576 numbers and bytes.
-/
import Derived.Test.YtlgcdcjfobfoiaaDn
import Derived.BigRegion
namespace Go.Proofs.Ytlgcdcjfobfoiaa
open Go.RowKit
set_option maxRecDepth 100000

theorem and_mask2 (z : Int) (m k : Nat) (hm : m + 1 = 2 ^ k) (hk : k ≤ 62) : ∃ N : Nat, Go.bits .and .i64 z (m : Int) = N ∧ N ≤ m := by
  have hm2 : m < 2 ^ 63 := by
    have : 2 ^ k ≤ 2 ^ 62 := Nat.pow_le_pow_right (by omega) hk
    omega
  have e : (BitVec.ofInt 64 z &&& BitVec.ofInt 64 (m : Int)).toNat = (BitVec.ofInt 64 z).toNat % (m + 1) := by
    rw [BitVec.toNat_and, hm]
    have : (BitVec.ofInt 64 (m : Int)).toNat = 2 ^ k - 1 := by
      rw [BitVec.ofInt_natCast, BitVec.toNat_ofNat, Nat.mod_eq_of_lt (by omega)]
      omega
    rw [this, Nat.and_two_pow_sub_one_eq_mod]
  refine ⟨(BitVec.ofInt 64 z).toNat % (m + 1), ?_, ?_⟩
  · show IntKind.i64.wrap ((BitVec.ofInt 64 z &&& BitVec.ofInt 64 (m : Int)).toNat : Int) = _
    rw [e, IntKind.wrap_i64]
    have : (BitVec.ofInt 64 z).toNat % (m + 1) < m + 1 := Nat.mod_lt _ (by omega)
    omega
  · have : (BitVec.ofInt 64 z).toNat % (m + 1) < m + 1 := Nat.mod_lt _ (by omega)
    omega


theorem bdL_err (l : List Nat) (a : List Int) (N : Nat) : ∀ (f : Nat) (b : List Int) (p : Nat), (bdL l a N f b p).1 = 0 ∨ (bdL l a N f b p).1 = 3 ∨ (bdL l a N f b p).1 = 14 := by
  intro f
  induction f with
  | zero => intro b p; exact .inl rfl
  | succ f ih =>
    intro b p
    have hn : ∀ q, (rdNat l q).1 = 0 ∨ (rdNat l q).1 = 3 ∨ (rdNat l q).1 = 14 := fun q => rdN_err l q 17 0 0 q
    unfold bdL
    split
    · exact .inl rfl
    · split
      · exact hn p
      · split
        · exact .inr (.inl rfl)
        · split
          · exact .inl rfl
          · split
            · exact hn _
            · exact ih _ _
theorem bodyD_err (l : List Nat) (a : List Int) (p : Nat) : (bodyD l a p).1 = 0 ∨ (bodyD l a p).1 = 3 ∨ (bodyD l a p).1 = 14 ∨ (bodyD l a p).1 = 2 := by
  unfold bodyD
  split
  · have := rdN_err l p 17 0 0 p
    rcases this with h | h | h
    · exact .inl h
    · exact .inr (.inl h)
    · exact .inr (.inr (.inl h))
  · split
    · exact .inr (.inr (.inr rfl))
    · rcases bdL_err l a (rdNat l p).2.1 ((rdNat l p).2.1 + 1) [] (rdNat l p).2.2 with h | h | h
      · exact .inl h
      · exact .inr (.inl h)
      · exact .inr (.inr (.inl h))
/-- What delta.Back may say. -/
theorem backD_says {a : List Int} {d : List Nat} (ha : i64r a) (hl : a.length ≤ 65536) :
    ((backD a d).1 = 0 ∧ encOk a (backD a d).2 ∧ packB (encB a (backD a d).2) = d ∧ i64r (backD a d).2) ∨ ((backD a d).2 = [] ∧ ((backD a d).1 = 14 ∨ (8 ≤ d.length ∧ ((backD a d).1 = 13 ∨ (backD a d).1 = 3 ∨ (backD a d).1 = 2)))) := by
  have hb := bodyD_err d a 128
  have hr := bodyD_rng d 128 ha
  unfold backD
  rw [if_neg (by omega)]
  split
  · exact .inr ⟨rfl, .inl rfl⟩
  · split
    · exact .inr ⟨rfl, .inr ⟨by omega, .inl rfl⟩⟩
    · split
      · exact .inr ⟨rfl, .inl rfl⟩
      · split
        · rename_i h4
          right
          refine ⟨rfl, ?_⟩
          rcases hb with h | h | h | h
          · exact absurd h h4
          · exact .inr ⟨by omega, .inr (.inl h)⟩
          · exact .inl h
          · exact .inr ⟨by omega, .inr (.inr h)⟩
        · split
          · exact .inr ⟨rfl, .inr ⟨by omega, .inl rfl⟩⟩
          · split
            · rename_i h6
              exact .inl ⟨rfl, ⟨hl, h6.2.1, h6.1⟩, h6.2.2, hr⟩
            · exact .inr ⟨rfl, .inr ⟨by omega, .inr (.inl rfl)⟩⟩

set_option maxHeartbeats 1600000 in
/-- slices.Index over the four errors: it is found. -/
theorem indexErr_any (g : Nat) (err : Int) (w : World) (hk : Bk w g 25 #[.int .i64 14, .int .i64 13, .int .i64 3, .int .i64 2]) (he : err = 14 ∨ err = 13 ∨ err = 3 ∨ err = 2) :
    Calls Try.prog 91 #[.slice (some ⟨g, 0, none⟩) 4 4, .int .i64 err] w fun e w' => (∃ i : Nat, i < 4 ∧ e = .returned (.int .i64 i)) ∧ w = w' := by
  have c0 : w.cell? ⟨g, 0, none⟩ = some (.int .i64 14) := hk.cell 0
  have c1 : w.cell? ⟨g, 1, none⟩ = some (.int .i64 13) := hk.cell 1
  have c2 : w.cell? ⟨g, 2, none⟩ = some (.int .i64 3) := hk.cell 2
  have c3 : w.cell? ⟨g, 3, none⟩ = some (.int .i64 2) := hk.cell 3
  have HE := Lib.hid he
  clear he hk
  go_enter Try.func91, Try.ntmps91
  go_wp2_with fail
  go_loopw [8] (fun i wr => ∃ k : Nat, k ≤ 4 ∧ i = .int .i64 k ∧ wr = w ∧ Hid ((0 < k → err ≠ 14) ∧ (1 < k → err ≠ 13) ∧ (2 < k → err ≠ 3) ∧ (3 < k → err ≠ 2))) (fun i _ => 4 - (intOf i).toNat)
  case atStart => exact ⟨0, by omega, rfl, rfl, Lib.hid ⟨by omega, by omega, by omega, by omega⟩⟩
  case round =>
    obtain ⟨k, hk, rfl, rfl, HN⟩ := hrel
    have hcase : k = 4 ∨ ∃ z : Int, wr.cell? ⟨g, k, none⟩ = some (.int .i64 z) ∧ k < 4 ∧ ((k = 0 ∧ z = 14) ∨ (k = 1 ∧ z = 13) ∨ (k = 2 ∧ z = 3) ∨ (k = 3 ∧ z = 2)) := by
      rcases (show k = 0 ∨ k = 1 ∨ k = 2 ∨ k = 3 ∨ k = 4 by omega) with rfl | rfl | rfl | rfl | rfl
      · exact .inr ⟨14, c0, by omega, by omega⟩
      · exact .inr ⟨13, c1, by omega, by omega⟩
      · exact .inr ⟨3, c2, by omega, by omega⟩
      · exact .inr ⟨2, c3, by omega, by omega⟩
      · exact .inl rfl
    rcases hcase with rfl | ⟨z, hc, hk4, hz⟩
    · have h1 := HN.out
      have h2 := HE.out
      exact absurd h2 (by omega)
    · have HZ := Lib.hid hz
      clear c0 c1 c2 c3 hz
      by_cases hez : (err == z) = true
      · go_wp2_with fail
        go_ret
        exact ⟨⟨k, hk4, rfl⟩, rfl⟩
      · have hez' : (err == z) = false := by simpa using hez
        have hne : err ≠ z := by simpa using hez
        have HNE := Lib.hid hne
        clear hez hne
        go_wp2_with fail
        go_roundw
        case rel => exact ⟨k + 1, by omega, by go_num, by first | rfl | trivial, Lib.hid (by have h1 := HN.out; have h2 := HNE.out; have h3 := HZ.out; omega)⟩
        case measure => simp [intOf]; omega
theorem containsErr_any (g : Nat) (err : Int) (w : World) (hk : Bk w g 25 #[.int .i64 14, .int .i64 13, .int .i64 3, .int .i64 2]) (he : err = 14 ∨ err = 13 ∨ err = 3 ∨ err = 2) :
    Calls Try.prog 62 #[.slice (some ⟨g, 0, none⟩) 4 4, .int .i64 err] w fun e w' => e = .returned (.bool true) ∧ w = w' := by
  have HI := Lib.hid (indexErr_any g err w hk he)
  clear hk he
  go_enter Try.func62, Try.ntmps62
  go_wp2_with fail
  refine HI.out.mono ?_
  rintro e w1 ⟨⟨i, hi, rfl⟩, rfl⟩
  go_wp2_with fail
  go_ret
  exact ⟨ret_b (by simp), rfl⟩
end Go.Proofs.Ytlgcdcjfobfoiaa
