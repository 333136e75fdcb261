/-
  The contract of kind.Name. Conditions: none.
-/
import Derived.Test.YtnidcmhfbkdioaaKit
import Derived.Deep.LoopGhost
import Derived.Deep.CutRange
namespace Go.Proofs.Ytnidcmhfbkdioaa
open Go.RowKit
set_option maxRecDepth 100000

def okc (c i : Nat) : Bool := (decide (97 ≤ c) && decide (c ≤ 122)) || (decide (0 < i) && (decide (48 ≤ c) && decide (c ≤ 57)))
def nameF (s : ByteArray) : Bool := decide (0 < s.data.toList.length) && (decide (s.data.toList.length ≤ 16) && s.data.toList.zipIdx.all fun p => okc p.1.toNat p.2)
theorem size_list (s : ByteArray) : s.data.toList.length = s.size := by
  obtain ⟨d⟩ := s
  exact Array.length_toList
theorem nameF_big {s : ByteArray} (h : 16 < s.size) : nameF s = false := by
  unfold nameF; rw [size_list, decide_eq_false (show ¬ s.size ≤ 16 by omega)]; simp
theorem nameF_zero {s : ByteArray} (h : s.size = 0) : nameF s = false := by
  unfold nameF; rw [size_list, h]; rfl
theorem nameF_all {s : ByteArray} (h0 : s.size ≠ 0) (h1 : ¬ 16 < s.size) (h : ∀ i (hi : i < s.size), okc s[i].toNat i = true) : nameF s = true := by
  unfold nameF
  rw [size_list, decide_eq_true (show 0 < s.size by omega), decide_eq_true (show s.size ≤ 16 by omega), Bool.true_and, Bool.true_and, List.all_eq_true]
  rintro ⟨c, i⟩ hc
  rw [List.mem_zipIdx_iff_getElem?] at hc
  obtain ⟨hi, e⟩ := List.getElem?_eq_some_iff.1 hc
  rw [size_list] at hi
  have := h i hi
  rw [show s[i] = c from e] at this
  exact this
theorem nameF_bad {s : ByteArray} {i : Nat} (hi : i < s.size) (h : okc s[i].toNat i = false) : nameF s = false := by
  unfold nameF
  have : (s.data.toList.zipIdx.all fun p => okc p.1.toNat p.2) = false := by
    rw [List.all_eq_false]
    refine ⟨(s[i], i), ?_, by simp [h]⟩
    rw [List.mem_zipIdx_iff_getElem?]
    exact List.getElem?_eq_some_iff.2 ⟨by rw [size_list]; exact hi, rfl⟩
  rw [this]; simp

theorem name_any (s : ByteArray) (w : World) : Calls Try.prog 208 #[.string s] w fun e w' => e = .returned (.bool (nameF s)) ∧ w = w' := by
  by_cases h0 : s.size = 0
  · obtain rfl : s = ByteArray.empty := by
      obtain ⟨d⟩ := s
      congr
      exact Array.eq_empty_of_size_eq_zero h0
    rw [nameF_zero h0]
    clear h0
    go_enter Try.func208, Try.ntmps208
    go_wp2_with fail
    go_ret
    exact ⟨rfl, rfl⟩
  · have hz : ((s.size : Int) == 0) = false := by simp only [beq_eq_false_iff_ne, ne_eq]; omega
    by_cases h16 : 16 < s.size
    · have h1 : (16 : Int) < s.size := by omega
      rw [nameF_big h16]
      go_enter Try.func208, Try.ntmps208
      go_wp2_with fail
      go_ret
      exact ⟨rfl, rfl⟩
    · have h1 : ¬ (16 : Int) < s.size := by omega
      have H16 := Lib.hid h16
      have H0 := Lib.hid h0
      obtain ⟨R, hR⟩ : ∃ R, R = nameF s := ⟨_, rfl⟩
      rw [← hR]
      have HR := Lib.hid hR
      clear hR h16 h0
      go_enter Try.func208, Try.ntmps208
      go_wp2_with fail
      go_loopg [15] s.size (fun g v wr => ∃ k : Nat, k ≤ s.size ∧ g = s.size - k ∧ v = .int .i64 k ∧ w = wr ∧ Hid (∀ i (hi : i < s.size), i < k → okc s[i].toNat i = true))
      case atStart => exact ⟨0, Nat.zero_le _, rfl, rfl, rfl, Lib.hid fun i _ h => by omega⟩
      case round =>
        obtain ⟨k, hk, rfl, rfl, rfl, HP⟩ := hrel
        by_cases hkn : k < s.size
        · obtain ⟨c, hc⟩ : ∃ c, c = s[k].toNat := ⟨_, rfl⟩
          have HC := Lib.hid hc
          go_upto_region 7 with fail
          rw [← hc]
          go_cut [39] from 21 to 39 (fun s39 wx => s39 = .bool (!okc c k) ∧ w = wx)
          case first =>
            clear hc
            have key : ∀ b : Bool, b = okc c k → okc c k = b := fun _ h => h.symm
            go_wp2_with fail
            all_goals
              go_meet
              refine ⟨?_, rfl⟩
              congr 1
              rw [Bool.eq_iff_iff]
              simp [okc]
              try omega
          case rest =>
            obtain ⟨rfl, rfl⟩ := hcut
            cases hok : okc c k
            · go_wp2_with fail
              go_ret
              rw [HR.out, nameF_bad hkn (by rw [← HC.out]; exact hok)]
              exact ⟨rfl, rfl⟩
            · go_wp2_with fail
              go_roundg (s.size - (k + 1))
              case measure => omega
              case rel => exact ⟨k + 1, by omega, rfl, by go_num, rfl, Lib.hid fun i hi hlt => by
                rcases Nat.lt_or_ge i k with h | h
                · exact HP.out i hi h
                · obtain rfl : i = k := by omega
                  rw [← HC.out]; exact hok⟩
        · obtain rfl : k = s.size := by omega
          go_wp2_with fail
          go_ret
          rw [HR.out, nameF_all H0.out H16.out fun i hi => HP.out i hi hi]
          exact ⟨rfl, rfl⟩
end Go.Proofs.Ytnidcmhfbkdioaa
