/-
  The walk of BridgeMaps over the contract of bodies (function 21: a premise here, to be proved in a later text).
-/
import Derived.Test.YtnidcmhfbkdioaaKo
namespace Go.Proofs.Ytnidcmhfbkdioaa
open Go.RowKit
set_option maxRecDepth 100000

def BodiesSay : Prop := ∀ w : World, Calls Try.prog 21 #[] w fun e w' => e = .returned (.bool true) ∧ Below w.heap.size w w'

set_option maxHeartbeats 1600000 in
theorem bridgeMaps_any (hbo : BodiesSay) {w : World} {B n c : Nat} {A : Option Addr} {ks : List Kd} (h : KsOk w B A n c ks) : Calls Try.prog 3 #[.slice A n c] w fun e w' => e = .returned (.bool true) ∧ Below w.heap.size w w' := by
  have h1 := of_says h
  have HBO := Lib.hid hbo
  generalize hr : mapF (ks.map Kd.p) = r at *
  obtain ⟨⟨a0, a1, a2⟩, e0⟩ := r
  have H1 := Lib.hid h1
  have HR := Lib.hid hr
  have H := Lib.hid h
  clear h1 hr hbo h
  go_enter Try.func3, Try.ntmps3
  go_wp2_with fail
  refine H1.out.mono ?_
  rintro e w1 ⟨rfl, hb1⟩
  obtain ⟨w2, hw2⟩ : ∃ w2, w2 = w1.alloc (.cells #[.int .i64 a0, .int .i64 a1, .int .i64 a2] 24) := ⟨_, rfl⟩
  have hb2 : Below w.heap.size w w2 := by rw [hw2]; exact hb1.alloc hb1.size _
  have hk2 : Bk w2 w1.heap.size 24 #[.int .i64 a0, .int .i64 a1, .int .i64 a2] := by rw [hw2]; exact Bk.new _ _ _
  have h2 := mapFault_says (H.out.below (hb2.mono H.out.lo))
  rw [HR.out] at h2
  have H2 := Lib.hid h2
  have HB2 := Lib.hid hb2
  have HK2 := Lib.hid hk2
  clear hb1 hb2 hk2 h2
  go_wp2_with fail
  rw [← hw2]
  clear hw2
  refine H2.out.mono ?_
  rintro e w3 ⟨rfl, hb3⟩
  obtain ⟨w4, hw4⟩ : ∃ w4, w4 = w3.alloc (.cells #[.int .i64 a0, .int .i64 a1, .int .i64 a2] 24) := ⟨_, rfl⟩
  have hk3 := HK2.out.below hb3 HK2.out.lt
  have hb4 : Below w.heap.size w w4 := by rw [hw4]; exact (HB2.out.trans (hb3.mono HB2.out.size)).alloc (Nat.le_trans HB2.out.size hb3.size) _
  have hk4 : Bk w4 w3.heap.size 24 #[.int .i64 a0, .int .i64 a1, .int .i64 a2] := by rw [hw4]; exact Bk.new _ _ _
  have hk4' : Bk w4 w1.heap.size 24 #[.int .i64 a0, .int .i64 a1, .int .i64 a2] := by rw [hw4]; exact hk3.alloc _
  have hbo := HBO.out w4
  have HBW := Lib.hid hbo
  have HB4 := Lib.hid hb4
  have HK4 := Lib.hid hk4
  have HK4' := Lib.hid hk4'
  clear hb3 hk3 hb4 hk4 hk4' hbo
  go_wp2_with fail
  rw [← hw4]
  clear hw4
  refine HBW.out.mono ?_
  rintro e w5 ⟨rfl, hb5⟩
  have HB5 := Lib.hid (HB4.out.trans (hb5.mono HB4.out.size))
  have hk5 := HK4.out.below hb5 HK4.out.lt
  have hk5' := HK4'.out.below hb5 HK4'.out.lt
  have q0 := hk5.cell 0
  have q1 := hk5.cell 1
  have q2 := hk5.cell 2
  have p0 := hk5'.cell 0
  have p1 := hk5'.cell 1
  have p2 := hk5'.cell 2
  simp only [List.getElem?_toArray, List.getElem?_cons_zero, List.getElem?_cons_succ] at q0 q1 q2 p0 p1 p2
  have t0 : (e0 == e0) = true := by simp
  clear hb5 hk5 hk5'
  go_wp2_with fail
  go_ret
  exact ⟨by simp, HB5.out⟩
end Go.Proofs.Ytnidcmhfbkdioaa
