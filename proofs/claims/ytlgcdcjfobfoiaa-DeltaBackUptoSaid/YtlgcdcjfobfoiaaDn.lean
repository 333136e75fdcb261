/-
  The contract of the law's own differs; the walk of DeltaInts. Conditions: lists that can be read, of at most 1048576 numbers.
-/
import Derived.Test.YtlgcdcjfobfoiaaDm
import Derived.Test.YtlgcdcjfobfoiaaUl
import Derived.Test.YtlgcdcjfobfoiaaNtf
import Derived.JoinedCond
namespace Go.Proofs.Ytlgcdcjfobfoiaa
open Go.RowKit
set_option maxRecDepth 100000

theorem i64r_15 : i64r [1, 5] := by intro x hx; simp at hx; omega
theorem i64r_1 : i64r [1] := by intro x hx; simp at hx; omega
theorem differsL_ints (w : World) : Calls Try.prog 55 #[.slice (some ⟨w.heap.size, 0, none⟩) 1 1, .slice (some ⟨w.heap.size + 1, 0, none⟩) 2 2] ((w.alloc (.cells #[.int .i64 1] 3)).alloc (.cells #[.int .i64 1, .int .i64 5] 3)) fun e w' => ∃ A c, e = .returned (.tuple #[.slice A 18 c, .int .i64 0]) ∧ w'.ownsRow w.heap.size 5 1 (.slice A 18 c) 18 (bytesV (packB (encB [1] [1, 5]))) ∧ Below w.heap.size w w' := by
  have hsz1 : (w.alloc (.cells #[.int .i64 1] 3)).heap.size = w.heap.size + 1 := by simp
  have hb1 := (Below.refl w.heap.size w).alloc (Nat.le_refl _) (.cells #[.int .i64 1] 3)
  have hb2 := hb1.alloc hb1.size (.cells #[.int .i64 1, .int .i64 5] 3)
  have hr1 : Rd (w.alloc (.cells #[.int .i64 1] 3)) (w.heap.size + 1) 1 (some ⟨w.heap.size, 0, none⟩) 1 (List.map (Value.int .i64) [1]) := Rd.new w 3 1 1 #[.int .i64 1] rfl
  generalize w.alloc (.cells #[.int .i64 1] 3) = w1 at *
  have hsz2 : (w1.alloc (.cells #[.int .i64 1, .int .i64 5] 3)).heap.size = w.heap.size + 2 := by simp [hsz1]
  have hr2 : Rd (w1.alloc (.cells #[.int .i64 1, .int .i64 5] 3)) (w1.heap.size + 1) 1 (some ⟨w1.heap.size, 0, none⟩) 2 (List.map (Value.int .i64) [1, 5]) := Rd.new w1 3 2 1 #[.int .i64 1, .int .i64 5] rfl
  have hr1' := hr1.below ((Below.refl (w.heap.size + 1) w1).alloc (by omega) (.cells #[.int .i64 1, .int .i64 5] 3))
  rw [hsz1] at hr2
  generalize w1.alloc (.cells #[.int .i64 1, .int .i64 5] 3) = w2 at *
  refine (ints_any _ _ 1 1 2 2 (w.heap.size + 2) [1] [1, 5] w2 (hr1'.more (by omega)) hr2 rfl rfl (by omega) i64r_1 i64r_15 (by omega)).mono ?_
  rintro e w3 (⟨_, A1, c1, rfl, ho1, hb3⟩ | ⟨hno, _⟩)
  · rw [differs_len.2] at ho1 ⊢
    exact ⟨_, _, rfl, own_mono ho1 (by omega), hb2.trans (hb3.mono (by omega))⟩
  · exact absurd differs_len.1 hno
theorem differsL_back (A : Option Addr) (c B : Nat) (w : World) (ho : w.ownsRow B 5 1 (.slice A 18 c) 18 (bytesV (packB (encB [1] [1, 5])))) :
    Calls Try.prog 60 #[.slice (some ⟨w.heap.size, 0, none⟩) 1 1, .slice A 18 c] (w.alloc (.cells #[.int .i64 1] 3)) fun e w' => ∃ A2 c2, e = .returned (.tuple #[.slice A2 2 c2, .int .i64 0]) ∧ w'.ownsRow w.heap.size 3 1 (.slice A2 2 c2) 2 ([1, 5].map (Value.int .i64)) ∧ Below w.heap.size w w' := by
  have hsz1 : (w.alloc (.cells #[.int .i64 1] 3)).heap.size = w.heap.size + 1 := by simp
  have hb1 := (Below.refl w.heap.size w).alloc (Nat.le_refl _) (.cells #[.int .i64 1] 3)
  have hr1 : Rd (w.alloc (.cells #[.int .i64 1] 3)) (w.heap.size + 1) 1 (some ⟨w.heap.size, 0, none⟩) 1 (List.map (Value.int .i64) [1]) := Rd.new w 3 1 1 #[.int .i64 1] rfl
  have hd := own_rd ho hb1
  generalize w.alloc (.cells #[.int .i64 1] 3) = w1 at *
  refine (back_any _ A 1 1 18 c (w.heap.size + 1) [1] (packB (encB [1] [1, 5])) w1 hr1 (hd.more (by omega)) rfl differs_len.2.symm (by omega) (by omega) i64r_1 (packB_lt _).1 (by omega)).mono ?_
  intro e w2 h
  unfold BackPost at h
  rw [back_ok i64r_15 differs_len.1] at h
  obtain ⟨A2, c2, rfl, ho2, hb2⟩ := h
  exact ⟨A2, c2, rfl, own_mono ho2 (by omega), hb1.trans (hb2.mono (by omega))⟩
theorem differsL_eq (A : Option Addr) (c B : Nat) (w : World) (ho : w.ownsRow B 3 1 (.slice A 2 c) 2 ([1, 5].map (Value.int .i64))) :
    Calls Try.prog 61 #[.slice A 2 c, .slice (some ⟨w.heap.size, 0, none⟩) 2 2] (w.alloc (.cells #[.int .i64 1, .int .i64 5] 3)) fun e w' => e = .returned (.bool true) ∧ Below w.heap.size w w' := by
  have hsz1 : (w.alloc (.cells #[.int .i64 1, .int .i64 5] 3)).heap.size = w.heap.size + 1 := by simp
  have hb1 := (Below.refl w.heap.size w).alloc (Nat.le_refl _) (.cells #[.int .i64 1, .int .i64 5] 3)
  have hr1 : Rd (w.alloc (.cells #[.int .i64 1, .int .i64 5] 3)) (w.heap.size + 1) 1 (some ⟨w.heap.size, 0, none⟩) 2 (List.map (Value.int .i64) [1, 5]) := Rd.new w 3 2 1 #[.int .i64 1, .int .i64 5] rfl
  have hd := own_rd ho hb1
  generalize w.alloc (.cells #[.int .i64 1, .int .i64 5] 3) = w1 at *
  refine (equalInts_any A _ 2 c 2 2 (w.heap.size + 1) [1, 5] [1, 5] w1 rfl rfl (by omega) (hd.more (by omega)) hr1).mono ?_
  rintro e w2 ⟨rfl, m, rfl⟩
  exact ⟨by simp, ⟨hb1.os, hb1.tape, hb1.output, hb1.size, hb1.block⟩⟩

set_option maxHeartbeats 800000 in
theorem differsL_any (w : World) : Calls Try.prog 57 #[] w fun e w' => e = .returned (.bool true) ∧ Below w.heap.size w w' := by
  have HI := Lib.hid (differsL_ints w)
  go_enter Try.func57, Try.ntmps57
  go_wp2_with fail
  refine HI.out.mono ?_
  rintro e w1 ⟨A1, c1, rfl, ho1, hb1⟩
  have HK := Lib.hid (differsL_back A1 c1 _ w1 ho1)
  have hs1 := hb1.size
  clear ho1 HI
  go_wp2_with fail
  refine HK.out.mono ?_
  rintro e w2 ⟨A2, c2, rfl, ho2, hb2⟩
  have HE := Lib.hid (differsL_eq A2 c2 _ w2 ho2)
  have hbb2 := hb1.trans (hb2.mono hs1)
  have hs2 := hbb2.size
  clear ho2 HK hb1 hb2
  go_wp2_with fail
  refine HE.out.mono ?_
  rintro e w3 ⟨rfl, hb3⟩
  have hbb3 := hbb2.trans (hb3.mono hs2)
  go_wp2_with fail
  go_ret
  exact ⟨rfl, hbb3⟩

set_option maxHeartbeats 1600000 in
theorem deltaInts_law (A0 A1 : Option Addr) (n0 c0 n1 c1 : Nat) (la lb : List Int) (w : World) (r0 : Rd w w.heap.size 1 A0 n0 (la.map (Value.int .i64))) (e0 : n0 = la.length) (z0 : n0 ≤ 1048576) (g0 : ∀ i ∈ la, (Lit.int .i64 i).wf = true)
    (r1 : Rd w w.heap.size 1 A1 n1 (lb.map (Value.int .i64))) (e1 : n1 = lb.length) (z1 : n1 ≤ 1048576) (g1 : ∀ i ∈ lb, (Lit.int .i64 i).wf = true) :
    Calls Try.prog 12 #[.slice A0 n0 c0, .slice A1 n1 c1] w fun e w' => e = .returned (.bool true) ∧ Below w.heap.size w w' := by
  have hA : i64r la := fun x hx => bounds_i64 (g0 x hx)
  have hB : i64r lb := fun x hx => bounds_i64 (g1 x hx)
  have HI := Lib.hid (ints_any A0 A1 n0 c0 n1 c1 w.heap.size la lb w r0 r1 e0 e1 (by omega) hA hB (Nat.le_refl _))
  have HD : Hid (∀ w1, Below w.heap.size w w1 → Calls Try.prog 56 #[.slice A0 n0 c0, .slice A1 n1 c1] w1 (DiffPost w1 la lb)) := Lib.hid fun w1 hb => refDiff_any A0 A1 n0 c0 n1 c1 w.heap.size la lb w1 (r0.below hb) (r1.below hb) e0 e1 ⟨z0, z1⟩ hA hB hb.size
  have hby := (packB_lt (encB la lb)).1
  have HBY := Lib.hid hby
  clear r0 r1 e0 e1 g0 g1 hA hB hby
  by_cases hok : encOk la lb
  · have HOK := Lib.hid hok
    have HDEC : Hid (decide (encOk la lb) = true) := Lib.hid (decide_eq_true hok)
    clear hok
    go_enter Try.func12, Try.ntmps12
    go_wp2_with fail
    refine HI.out.mono ?_
    rintro e w1 (⟨_, A3, c3, rfl, ho3, hb1⟩ | ⟨hno, _⟩)
    rotate_left
    · exact absurd HOK.out hno
    have HD2 := Lib.hid (HD.out w1 hb1)
    have hs1 := hb1.size
    clear HI HD
    go_wp2_with fail
    refine HD2.out.mono ?_
    rintro e w2 ⟨A4, c4, rfl, ho4, hb2⟩
    rw [HDEC.out]
    have hr3 := own_rd ho3 hb2
    have hs12 := hb2.size
    have hbb2 := hb1.trans (hb2.mono hs1)
    have hs2 := hbb2.size
    clear HD2 ho3 hb1 hb2
    go_wp2_with fail
    refine (differsL_any _).mono ?_
    rintro e w3 ⟨rfl, hb3⟩
    have hr4 := own_rd ho4 hb3
    have hs23 := hb3.size
    have heq := bytesEqual_any A3 A4 _ c3 _ c4 w3.heap.size _ _ w3 HBY.out HBY.out (((hr3.more hs12).below hb3).more hs23) (hr4.more hs23)
    simp only [decide_true] at heq
    have HEQ := Lib.hid heq
    have hbb3 := hbb2.trans (hb3.mono hs2)
    clear heq hr3 hr4 hb3 hbb2 ho4
    go_wp2_with fail
    refine HEQ.out.mono ?_
    rintro e w4 ⟨rfl, rfl⟩
    go_wp2_with fail
    go_ret
    exact ⟨rfl, hbb3⟩
  · have HOK := Lib.hid hok
    have HDEC : Hid (decide (encOk la lb) = false) := Lib.hid (decide_eq_false hok)
    clear hok
    go_enter Try.func12, Try.ntmps12
    go_wp2_with fail
    refine HI.out.mono ?_
    rintro e w1 (⟨hyes, _⟩ | ⟨_, A3, c3, rfl, ho3, hb1⟩)
    · exact absurd hyes HOK.out
    have HD2 := Lib.hid (HD.out w1 hb1)
    have hs1 := hb1.size
    clear HI HD ho3
    go_wp2_with fail
    refine HD2.out.mono ?_
    rintro e w2 ⟨A4, c4, rfl, ho4, hb2⟩
    rw [HDEC.out]
    have hbb2 := hb1.trans (hb2.mono hs1)
    have hs2 := hbb2.size
    clear HD2 hb1 hb2 ho4
    go_wp2_with fail
    refine (differsL_any _).mono ?_
    rintro e w3 ⟨rfl, hb3⟩
    have hbb3 := hbb2.trans (hb3.mono hs2)
    clear hb3 hbb2
    go_wp2_with fail
    go_ret
    exact ⟨rfl, hbb3⟩
end Go.Proofs.Ytlgcdcjfobfoiaa
