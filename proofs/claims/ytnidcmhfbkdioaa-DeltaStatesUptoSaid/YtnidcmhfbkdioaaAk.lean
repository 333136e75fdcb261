/-
  The contract of tourlaw4.differs. Conditions: none.
-/
import Derived.Test.YtnidcmhfbkdioaaAj
namespace Go.Proofs.Ytnidcmhfbkdioaa
open Go.RowKit
set_option maxRecDepth 100000

theorem differs_len : encOk [1] [1, 5] ∧ (packB (encB [1] [1, 5])).length = 18 := by
  have h1 : (encB [1] [1, 5]).length = 143 := by
    have g2 : grp 2 = 1 := by decide
    have g1 : grp 1 = 1 := by decide
    have hz : zig (wrap64 (5 - bse [1] 1)) = 10 := by decide +kernel
    have g10 : grp 10 = 1 := by decide
    rw [encB_R, encH, encR, if_pos (by decide), encR, if_neg (by decide), hz, encR, if_neg (by decide)]
    simp only [List.length_append, bitsOf_length, natB_length, List.length_cons, List.length_nil]
    rw [g1, g10]
    simp [g2]
  exact ⟨⟨by simp, by simp, by omega⟩, by rw [packB_length]; omega⟩
theorem i64r_15 : i64r [1, 5] := by intro x hx; simp at hx; omega
theorem i64r_1 : i64r [1] := by intro x hx; simp at hx; omega
theorem differsL_ints (w : World) : Calls Try.prog 118 #[.slice (some ⟨w.heap.size, 0, none⟩) 1 1, .slice (some ⟨w.heap.size + 1, 0, none⟩) 2 2] ((w.alloc (.cells #[.int .i64 1] 3)).alloc (.cells #[.int .i64 1, .int .i64 5] 3)) fun e w' => ∃ A c, e = .returned (.tuple #[.slice A 18 c, .int .i64 0]) ∧ w'.ownsRow w.heap.size 5 1 (.slice A 18 c) 18 (bytesV (packB (encB [1] [1, 5]))) ∧ Below w.heap.size w w' := by
  have hsz1 : (w.alloc (.cells #[.int .i64 1] 3)).heap.size = w.heap.size + 1 := by simp
  have hb1 := (Below.refl w.heap.size w).alloc (Nat.le_refl _) (.cells #[.int .i64 1] 3)
  have hb2 := hb1.alloc hb1.size (.cells #[.int .i64 1, .int .i64 5] 3)
  have hr1 : Rd (w.alloc (.cells #[.int .i64 1] 3)) (w.heap.size + 1) 1 (some ⟨w.heap.size, 0, none⟩) 1 (List.map (Value.int .i64) [1]) := Rd.new w 3 1 1 #[.int .i64 1] rfl
  generalize w.alloc (.cells #[.int .i64 1] 3) = w1 at *
  have hsz2 : (w1.alloc (.cells #[.int .i64 1, .int .i64 5] 3)).heap.size = w.heap.size + 2 := by simp [hsz1]
  have hr2 : Rd (w1.alloc (.cells #[.int .i64 1, .int .i64 5] 3)) (w1.heap.size + 1) 1 (some ⟨w1.heap.size, 0, none⟩) 2 (List.map (Value.int .i64) [1, 5]) := Rd.new w1 3 2 1 #[.int .i64 1, .int .i64 5] rfl
  have hr1' := hr1.below ((Below.refl (w.heap.size + 1) w1).alloc (by omega) (.cells #[.int .i64 1, .int .i64 5] 3))
  rw [hsz1] at hr2
  generalize w1.alloc (.cells #[.int .i64 1, .int .i64 5] 3) = w2 at *
  refine (ints_any _ _ 1 1 2 2 (w.heap.size + 2) [1] [1, 5] w2 (hr1'.more (by omega)) hr2 rfl rfl (by omega) i64r_1 i64r_15 (by omega)).mono ?_
  rintro e w3 (⟨_, A1, c1, rfl, ho1, hb3⟩ | ⟨hno, _⟩)
  · rw [differs_len.2] at ho1 ⊢
    exact ⟨_, _, rfl, own_mono ho1 (by omega), hb2.trans (hb3.mono (by omega))⟩
  · exact absurd differs_len.1 hno
theorem differsL_back (A : Option Addr) (c B : Nat) (w : World) (ho : w.ownsRow B 5 1 (.slice A 18 c) 18 (bytesV (packB (encB [1] [1, 5])))) :
    Calls Try.prog 126 #[.slice (some ⟨w.heap.size, 0, none⟩) 1 1, .slice A 18 c] (w.alloc (.cells #[.int .i64 1] 3)) fun e w' => ∃ A2 c2, e = .returned (.tuple #[.slice A2 2 c2, .int .i64 0]) ∧ w'.ownsRow w.heap.size 3 1 (.slice A2 2 c2) 2 ([1, 5].map (Value.int .i64)) ∧ Below w.heap.size w w' := by
  have hsz1 : (w.alloc (.cells #[.int .i64 1] 3)).heap.size = w.heap.size + 1 := by simp
  have hb1 := (Below.refl w.heap.size w).alloc (Nat.le_refl _) (.cells #[.int .i64 1] 3)
  have hr1 : Rd (w.alloc (.cells #[.int .i64 1] 3)) (w.heap.size + 1) 1 (some ⟨w.heap.size, 0, none⟩) 1 (List.map (Value.int .i64) [1]) := Rd.new w 3 1 1 #[.int .i64 1] rfl
  have hd := own_rd ho hb1
  generalize w.alloc (.cells #[.int .i64 1] 3) = w1 at *
  refine (back_any _ A 1 1 18 c (w.heap.size + 1) [1] (packB (encB [1] [1, 5])) w1 hr1 (hd.more (by omega)) rfl differs_len.2.symm (by omega) (by omega) i64r_1 (packB_lt _).1 (by omega)).mono ?_
  intro e w2 h
  unfold BackPost at h
  rw [back_ok i64r_15 differs_len.1] at h
  obtain ⟨A2, c2, rfl, ho2, hb2⟩ := h
  exact ⟨A2, c2, rfl, own_mono ho2 (by omega), hb1.trans (hb2.mono (by omega))⟩
theorem differsL_eq (A : Option Addr) (c B : Nat) (w : World) (ho : w.ownsRow B 3 1 (.slice A 2 c) 2 ([1, 5].map (Value.int .i64))) :
    Calls Try.prog 27 #[.slice A 2 c, .slice (some ⟨w.heap.size, 0, none⟩) 2 2] (w.alloc (.cells #[.int .i64 1, .int .i64 5] 3)) fun e w' => e = .returned (.bool true) ∧ Below w.heap.size w w' := by
  have hsz1 : (w.alloc (.cells #[.int .i64 1, .int .i64 5] 3)).heap.size = w.heap.size + 1 := by simp
  have hb1 := (Below.refl w.heap.size w).alloc (Nat.le_refl _) (.cells #[.int .i64 1, .int .i64 5] 3)
  have hr1 : Rd (w.alloc (.cells #[.int .i64 1, .int .i64 5] 3)) (w.heap.size + 1) 1 (some ⟨w.heap.size, 0, none⟩) 2 (List.map (Value.int .i64) [1, 5]) := Rd.new w 3 2 1 #[.int .i64 1, .int .i64 5] rfl
  have hd := own_rd ho hb1
  generalize w.alloc (.cells #[.int .i64 1, .int .i64 5] 3) = w1 at *
  refine (equalInts_any A _ 2 c 2 2 (w.heap.size + 1) [1, 5] [1, 5] w1 rfl rfl (by omega) (hd.more (by omega)) hr1).mono ?_
  rintro e w2 ⟨rfl, m, rfl⟩
  exact ⟨by simp, ⟨hb1.os, hb1.tape, hb1.output, hb1.size, hb1.block⟩⟩
set_option maxHeartbeats 800000 in
theorem differsL_any (w : World) : Calls Try.prog 44 #[] w fun e w' => e = .returned (.bool true) ∧ Below w.heap.size w w' := by
  have HI := Lib.hid (differsL_ints w)
  go_enter Try.func44, Try.ntmps44
  go_wp2_with fail
  refine HI.out.mono ?_
  rintro e w1 ⟨A1, c1, rfl, ho1, hb1⟩
  have HK := Lib.hid (differsL_back A1 c1 _ w1 ho1)
  have hs1 := hb1.size
  clear ho1 HI
  go_wp2_with fail
  refine HK.out.mono ?_
  rintro e w2 ⟨A2, c2, rfl, ho2, hb2⟩
  have HE := Lib.hid (differsL_eq A2 c2 _ w2 ho2)
  have hbb2 := hb1.trans (hb2.mono hs1)
  have hs2 := hbb2.size
  clear ho2 HK hb1 hb2
  go_wp2_with fail
  refine HE.out.mono ?_
  rintro e w3 ⟨rfl, hb3⟩
  have hbb3 := hbb2.trans (hb3.mono hs2)
  go_wp2_with fail
  go_ret
  exact ⟨rfl, hbb3⟩
end Go.Proofs.Ytnidcmhfbkdioaa
