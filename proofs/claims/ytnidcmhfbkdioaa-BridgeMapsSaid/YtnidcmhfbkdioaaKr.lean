/-
  The contract of bodies (function 21): true. Conditions: none.
-/
import Derived.Test.YtnidcmhfbkdioaaKq
namespace Go.Proofs.Ytnidcmhfbkdioaa
open Go.RowKit
set_option maxRecDepth 100000

theorem mapF_k4 : mapF k4 = ((1, 2, 3), 0) := by decide +kernel

set_option maxHeartbeats 800000 in
theorem bodies_say : BodiesSay := by
  intro w
  have HK := Lib.hid kinds4_any
  go_enter Try.func21, Try.ntmps21
  go_wp2_with fail
  refine (HK.out _).mono ?_
  rintro e w1 ⟨A, c, ks, rfl, hks, hp, hb⟩
  have hof := of_says hks
  rw [hp, mapF_k4] at hof
  have HOF := Lib.hid hof
  have HB := Lib.hid hb
  clear hof hks hp hb
  go_wp2_with fail
  refine HOF.out.mono ?_
  rintro e w2 ⟨rfl, hb2⟩
  have HB2 := Lib.hid (HB.out.trans (hb2.mono HB.out.size))
  clear hb2
  dsimp only
  go_wp2_with fail
  go_ret
  exact ⟨rfl, HB2.out.alloc HB2.out.size _⟩
end Go.Proofs.Ytnidcmhfbkdioaa
