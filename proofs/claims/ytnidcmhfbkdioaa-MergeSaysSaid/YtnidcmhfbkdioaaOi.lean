/-
  The contract of merge.Three at worlds of which one is not valid, or which are not of the same kinds; slices.EqualFunc of kinds as the law MergeSays calls it.
  Conditions: what is read can be read.
-/
import Derived.Test.YtnidcmhfbkdioaaMs
namespace Go.Proofs.Ytnidcmhfbkdioaa
open Go.RowKit
set_option maxRecDepth 100000

/-- The first fault. -/
def bad1 : List Int → Int
  | [] => 0
  | a :: l => if a = 0 then bad1 l else a
theorem bad1_step {l : List Int} {i : Nat} {v : Int} (h : l[i]? = some v) : bad1 (l.take (i + 1)) = if bad1 (l.take i) = 0 then v else bad1 (l.take i) := by
  induction l generalizing i with
  | nil => simp at h
  | cons a l ih =>
    cases i with
    | zero =>
      have : a = v := by simpa using h
      subst this
      by_cases h0 : a = 0 <;> simp [bad1, h0]
    | succ i =>
      have h2 := ih (i := i) (by simpa using h)
      by_cases h0 : a = 0
      · simpa [bad1, h0] using h2
      · simp [bad1, h0]
theorem bad1_stop {l : List Int} {i : Nat} (h : bad1 (l.take i) ≠ 0) : bad1 l = bad1 (l.take i) := by
  induction l generalizing i with
  | nil => simp at h; exact absurd rfl h
  | cons a l ih =>
    cases i with
    | zero => exact absurd rfl h
    | succ i =>
      by_cases h0 : a = 0
      · simp [bad1, h0] at h ⊢
        exact ih h
      · simp [bad1, h0]
def dif (x y : Wv Kp2) : Int := if x.ks = y.ks then 0 else 8
/-- The faults in the order of Three. -/
def badL (o x y : Wv Kp2) : List Int := [wcheckF o, wcheckF x, wcheckF y, dif o x, dif o y]
def badF (o x y : Wv Kp2) : Int := bad1 (badL o x y)
theorem badF_zero {o x y : Wv Kp2} (h : badF o x y = 0) : wcheckF o = 0 ∧ wcheckF x = 0 ∧ wcheckF y = 0 ∧ x.ks = o.ks ∧ y.ks = o.ks := by
  have key : ∀ (l : List Int), bad1 l = 0 → ∀ a ∈ l, a = 0 := by
    intro l
    induction l with
    | nil => intro _ a ha; cases ha
    | cons b l ih =>
      intro h a ha
      by_cases h0 : b = 0
      · rw [bad1, if_pos h0] at h
        rcases List.mem_cons.1 ha with rfl | ha
        · exact h0
        · exact ih h a ha
      · rw [bad1, if_neg h0] at h; exact absurd h h0
  have k := key _ h
  refine ⟨k _ (by simp [badL]), k _ (by simp [badL]), k _ (by simp [badL]), ?_, ?_⟩
  · have h1 : dif o x = 0 := k _ (by simp [badL])
    by_cases h2 : o.ks = x.ks
    · exact h2.symm
    · rw [dif, if_neg h2] at h1; cases h1
  · have h1 : dif o y = 0 := k _ (by simp [badL])
    by_cases h2 : o.ks = y.ks
    · exact h2.symm
    · rw [dif, if_neg h2] at h1; cases h1

set_option maxHeartbeats 6400000 in
theorem three_bad {w : World} {B : Nat} {O X Y : Wd} (hO : WdOk w B O) (hX : WdOk w B X) (hY : WdOk w B Y) (hbad : badF O.p X.p Y.p ≠ 0) :
    Calls Try.prog 31 #[O.v, X.v, Y.v] w fun e w' => e = .returned (.tuple #[.agg #[.slice none 0 0, .slice none 0 0, .slice none 0 0], .slice none 0 0, .int .i64 (badF O.p X.p Y.p)]) ∧ Below w.heap.size w w' := by
  show Calls Try.prog 31 #[.agg #[.slice O.kA O.kn O.kc, .slice O.gA O.gn O.gc, .slice O.iA O.im O.ic], .agg #[.slice X.kA X.kn X.kc, .slice X.gA X.gn X.gc, .slice X.iA X.im X.ic], .agg #[.slice Y.kA Y.kn Y.kc, .slice Y.gA Y.gn Y.gc, .slice Y.iA Y.im Y.ic]] w _
  obtain ⟨W0, hW0⟩ : ∃ W0, W0 = (((w.alloc (.cells #[.slice O.kA O.kn O.kc, .slice O.gA O.gn O.gc, .slice O.iA O.im O.ic] 52)).alloc (.cells #[.slice X.kA X.kn X.kc, .slice X.gA X.gn X.gc, .slice X.iA X.im X.ic] 52)).alloc (.cells #[.slice Y.kA Y.kn Y.kc, .slice Y.gA Y.gn Y.gc, .slice Y.iA Y.im Y.ic] 52)).alloc (.cells #[.slice none 0 0, .slice none 0 0, .slice none 0 0] 52) := ⟨_, rfl⟩
  have hb0 : Below w.heap.size w W0 := by rw [hW0]; exact Below.al (Below.al (Below.al (Below.al (Below.refl _ _) _) _) _) _
  have k0 : Bk W0 w.heap.size 52 #[.slice O.kA O.kn O.kc, .slice O.gA O.gn O.gc, .slice O.iA O.im O.ic] := by rw [hW0]; exact (((Bk.new w 52 _).alloc _).alloc _).alloc _
  have k1 : Bk W0 (w.heap.size + 1) 52 #[.slice X.kA X.kn X.kc, .slice X.gA X.gn X.gc, .slice X.iA X.im X.ic] := by rw [hW0]; exact ((Bk.two w _ 52 _).alloc _).alloc _
  have k2 : Bk W0 (w.heap.size + 2) 52 #[.slice Y.kA Y.kn Y.kc, .slice Y.gA Y.gn Y.gc, .slice Y.iA Y.im Y.ic] := by rw [hW0]; exact (Bk.three w _ _ 52 _).alloc _
  have k3 : Bk W0 (w.heap.size + 3) 52 #[.slice none 0 0, .slice none 0 0, .slice none 0 0] := by rw [hW0]; simpa using Bk.new (((w.alloc (.cells #[.slice O.kA O.kn O.kc, .slice O.gA O.gn O.gc, .slice O.iA O.im O.ic] 52)).alloc (.cells #[.slice X.kA X.kn X.kc, .slice X.gA X.gn X.gc, .slice X.iA X.im X.ic] 52)).alloc (.cells #[.slice Y.kA Y.kn Y.kc, .slice Y.gA Y.gn Y.gc, .slice Y.iA Y.im Y.ic] 52)) 52 #[.slice none 0 0, .slice none 0 0, .slice none 0 0]
  have hsz0 : W0.heap.size = w.heap.size + 4 := by rw [hW0]; simp
  obtain ⟨W1, hW1⟩ : ∃ W1, W1 = W0.alloc (.cells #[.slice O.kA O.kn O.kc, .slice O.gA O.gn O.gc, .slice O.iA O.im O.ic, .slice X.kA X.kn X.kc, .slice X.gA X.gn X.gc, .slice X.iA X.im X.ic, .slice Y.kA Y.kn Y.kc, .slice Y.gA Y.gn Y.gc, .slice Y.iA Y.im Y.ic] 52) := ⟨_, rfl⟩
  have hW1' := hW1
  rw [hW0] at hW1'
  have hb1 : Below w.heap.size w W1 := by rw [hW1]; exact Below.al hb0 _
  have k4 : Bk W1 (w.heap.size + 4) 52 #[.slice O.kA O.kn O.kc, .slice O.gA O.gn O.gc, .slice O.iA O.im O.ic, .slice X.kA X.kn X.kc, .slice X.gA X.gn X.gc, .slice X.iA X.im X.ic, .slice Y.kA Y.kn Y.kc, .slice Y.gA Y.gn Y.gc, .slice Y.iA Y.im Y.ic] := by rw [hW1, ← hsz0]; exact Bk.new _ _ _
  have q0 : Bk W1 w.heap.size 52 #[.slice O.kA O.kn O.kc, .slice O.gA O.gn O.gc, .slice O.iA O.im O.ic] := by rw [hW1]; exact k0.alloc _
  have q1 : Bk W1 (w.heap.size + 1) 52 #[.slice X.kA X.kn X.kc, .slice X.gA X.gn X.gc, .slice X.iA X.im X.ic] := by rw [hW1]; exact k1.alloc _
  have q2 : Bk W1 (w.heap.size + 2) 52 #[.slice Y.kA Y.kn Y.kc, .slice Y.gA Y.gn Y.gc, .slice Y.iA Y.im Y.ic] := by rw [hW1]; exact k2.alloc _
  have q3 : Bk W1 (w.heap.size + 3) 52 #[.slice none 0 0, .slice none 0 0, .slice none 0 0] := by rw [hW1]; exact k3.alloc _
  have hBw : B ≤ w.heap.size := hO.ks.lo
  have HBX := Lib.hid (And.intro q0 (And.intro q1 (And.intro q2 q3)))
  have H4 := Lib.hid k4
  have HB1 := Lib.hid hb1
  have HO := Lib.hid hO
  have HX := Lib.hid hX
  have HY := Lib.hid hY
  have HBD := Lib.hid hbad
  clear hO hX hY hbad hb0 k0 k1 k2 k3 hsz0 hb1 k4 q0 q1 q2 q3
  go_enter Try.func31, Try.ntmps31
  go_wp2_with fail
  rw [← hW1']
  clear hW1' hW1 hW0
  go_loopw [27] (fun iv wr => ∃ i : Nat, i ≤ 3 ∧ iv = .int .i64 i ∧ Hid (bad1 ((badL O.p X.p Y.p).take i) = 0) ∧ Hid (Below W1.heap.size W1 wr)) (fun iv _ => 3 - (intOf iv).toNat)
  case atStart => exact ⟨0, by omega, rfl, Lib.hid rfl, Lib.hid (Below.refl _ _)⟩
  case round =>
    obtain ⟨i, hi, rfl, HZ, HW⟩ := hrel
    by_cases hlt : i < 3
    · have hz : (i : Int) < 3 := by omega
      obtain ⟨V, hV, hok, hck⟩ : ∃ V, [O, X, Y][i]? = some V ∧ WdOk w B V ∧ (badL O.p X.p Y.p)[i]? = some (wcheckF V.p) := by
        rcases (show i = 0 ∨ i = 1 ∨ i = 2 by omega) with rfl | rfl | rfl
        · exact ⟨O, rfl, HO.out, rfl⟩
        · exact ⟨X, rfl, HX.out, rfl⟩
        · exact ⟨Y, rfl, HY.out, rfl⟩
      obtain ⟨c0, c1, c2⟩ := bk_wd3 (H4.out.below HW.out H4.out.lt) hV
      have hb2 : Below w.heap.size w (wr.alloc (.cells #[.slice V.kA V.kn V.kc, .slice V.gA V.gn V.gc, .slice V.iA V.im V.ic] 52)) := Below.al (HB1.out.trans (HW.out.mono HB1.out.size)) _
      obtain ⟨cv, hcv⟩ : ∃ cv, cv = wcheckF V.p := ⟨_, rfl⟩
      have HCK := Lib.hid (wcheck_any (hok.below (hb2.mono hBw)))
      have hst := bad1_step hck
      rw [HZ.out, if_pos rfl] at hst
      rw [← hcv] at HCK hst
      have HST := Lib.hid hst
      have HW2 : Hid (Below W1.heap.size W1 (wr.alloc (.cells #[.slice V.kA V.kn V.kc, .slice V.gA V.gn V.gc, .slice V.iA V.im V.ic] 52))) := Lib.hid (Below.al HW.out _)
      clear hok hck hV hb2 hcv hst
      dsimp only [Wd.v] at HCK
      go_wp2_with fail
      (with_reducible refine HCK.out.mono ?_)
      rintro e w3 ⟨rfl, hb3⟩
      have HW3 : Hid (Below W1.heap.size W1 w3) := Lib.hid (Below.tr HW2.out hb3)
      clear hb3 HCK HW2 c0 c1 c2
      by_cases hc0 : cv = 0
      · subst hc0
        go_wp2_with fail
        go_roundw
        case rel => exact ⟨i + 1, by omega, by go_num, HST, HW3⟩
        case measure => simp [intOf]; omega
      · have t0 : (cv != 0) = true := by simpa using hc0
        have HBD2 : Hid (badF O.p X.p Y.p = cv) := Lib.hid (by
          have h : bad1 (List.take (i + 1) (badL O.p X.p Y.p)) ≠ 0 := by rw [HST.out]; exact hc0
          exact (bad1_stop h).trans HST.out)
        have hbx : Bk w3 (w.heap.size + 3) 52 #[.slice none 0 0, .slice none 0 0, .slice none 0 0] := HBX.out.2.2.2.below HW3.out HBX.out.2.2.2.lt
        have hlt3 := hbx.lt
        have n0 : w3.cell? ⟨w.heap.size + 3, 0, none⟩ = some (.slice none 0 0) := hbx.cell 0
        have n1 : w3.cell? ⟨w.heap.size + 3, 1, none⟩ = some (.slice none 0 0) := hbx.cell 1
        have n2 : w3.cell? ⟨w.heap.size + 3, 2, none⟩ = some (.slice none 0 0) := hbx.cell 2
        have m0 := hbx.frozen 0
        have m1 := hbx.frozen 1
        have m2 := hbx.frozen 2
        have HB3 : Hid (Below w.heap.size w w3) := Lib.hid (HB1.out.trans (HW3.out.mono HB1.out.size))
        clear hc0 HZ HW HW3 HST HBX HB1 H4
        go_wp2_with fail
        (try simp only [Exit.inBlock, Exit.then])
        refine bodyPost_ret (v := .tuple #[.agg #[.slice none 0 0, .slice none 0 0, .slice none 0 0], .slice none 0 0, .int .i64 cv]) ?_ rfl ⟨by rw [HBD2.out], ?_⟩
        · rw [results_c3 rfl]
          go_simp
        · (repeat' first | with_reducible exact HB3.out | with_reducible refine Below.setCell ?_ (by dsimp only; omega) _)
    · obtain rfl : i = 3 := by omega
      have HBX2 : Hid (Bk wr w.heap.size 52 #[.slice O.kA O.kn O.kc, .slice O.gA O.gn O.gc, .slice O.iA O.im O.ic] ∧ Bk wr (w.heap.size + 1) 52 #[.slice X.kA X.kn X.kc, .slice X.gA X.gn X.gc, .slice X.iA X.im X.ic] ∧ Bk wr (w.heap.size + 2) 52 #[.slice Y.kA Y.kn Y.kc, .slice Y.gA Y.gn Y.gc, .slice Y.iA Y.im Y.ic] ∧ Bk wr (w.heap.size + 3) 52 #[.slice none 0 0, .slice none 0 0, .slice none 0 0]) := Lib.hid ⟨HBX.out.1.below HW.out HBX.out.1.lt, HBX.out.2.1.below HW.out HBX.out.2.1.lt, HBX.out.2.2.1.below HW.out HBX.out.2.2.1.lt, HBX.out.2.2.2.below HW.out HBX.out.2.2.2.lt⟩
      have HB2 : Hid (Below w.heap.size w wr) := Lib.hid (HB1.out.trans (HW.out.mono HB1.out.size))
      clear HBX HB1 HW H4
      have x0 : wr.cell? ⟨w.heap.size + 1, 0, none⟩ = some (.slice X.kA X.kn X.kc) := HBX2.out.2.1.cell 0
      have x1 : wr.cell? ⟨w.heap.size + 1, 1, none⟩ = some (.slice X.gA X.gn X.gc) := HBX2.out.2.1.cell 1
      have x2 : wr.cell? ⟨w.heap.size + 1, 2, none⟩ = some (.slice X.iA X.im X.ic) := HBX2.out.2.1.cell 2
      have y0 : wr.cell? ⟨w.heap.size + 2, 0, none⟩ = some (.slice Y.kA Y.kn Y.kc) := HBX2.out.2.2.1.cell 0
      have y1 : wr.cell? ⟨w.heap.size + 2, 1, none⟩ = some (.slice Y.gA Y.gn Y.gc) := HBX2.out.2.2.1.cell 1
      have y2 : wr.cell? ⟨w.heap.size + 2, 2, none⟩ = some (.slice Y.iA Y.im Y.ic) := HBX2.out.2.2.1.cell 2
      obtain ⟨W2, hW2⟩ : ∃ W2, W2 = wr.alloc (.cells #[.slice X.kA X.kn X.kc, .slice X.gA X.gn X.gc, .slice X.iA X.im X.ic, .slice Y.kA Y.kn Y.kc, .slice Y.gA Y.gn Y.gc, .slice Y.iA Y.im Y.ic] 52) := ⟨_, rfl⟩
      have H5 : Hid (Bk W2 wr.heap.size 52 #[.slice X.kA X.kn X.kc, .slice X.gA X.gn X.gc, .slice X.iA X.im X.ic, .slice Y.kA Y.kn Y.kc, .slice Y.gA Y.gn Y.gc, .slice Y.iA Y.im Y.ic]) := Lib.hid (by rw [hW2]; exact Bk.new _ _ _)
      have HBX3 : Hid (Bk W2 w.heap.size 52 #[.slice O.kA O.kn O.kc, .slice O.gA O.gn O.gc, .slice O.iA O.im O.ic] ∧ Bk W2 (w.heap.size + 1) 52 #[.slice X.kA X.kn X.kc, .slice X.gA X.gn X.gc, .slice X.iA X.im X.ic] ∧ Bk W2 (w.heap.size + 2) 52 #[.slice Y.kA Y.kn Y.kc, .slice Y.gA Y.gn Y.gc, .slice Y.iA Y.im Y.ic] ∧ Bk W2 (w.heap.size + 3) 52 #[.slice none 0 0, .slice none 0 0, .slice none 0 0]) := Lib.hid (by rw [hW2]; exact ⟨HBX2.out.1.alloc _, HBX2.out.2.1.alloc _, HBX2.out.2.2.1.alloc _, HBX2.out.2.2.2.alloc _⟩)
      have HB3 : Hid (Below w.heap.size w W2) := Lib.hid (by rw [hW2]; exact Below.al HB2.out _)
      clear HBX2 HB2
      go_wp2_with fail
      rw [← hW2]
      clear hW2 x0 x1 x2 y0 y1 y2
      go_loopw [42] (fun iv wr => ∃ i : Nat, i ≤ 2 ∧ iv = .int .i64 i ∧ Hid (bad1 ((badL O.p X.p Y.p).take (3 + i)) = 0) ∧ Hid (Below W2.heap.size W2 wr)) (fun iv _ => 2 - (intOf iv).toNat)
      case atStart => exact ⟨0, by omega, rfl, HZ, Lib.hid (Below.refl _ _)⟩
      case round =>
        obtain ⟨i, hi, rfl, HZ, HW⟩ := hrel
        by_cases hlt : i < 2
        · have hz : (i : Int) < 2 := by omega
          obtain ⟨V, hV, hok, hck⟩ : ∃ V, [X, Y][i]? = some V ∧ WdOk w B V ∧ (badL O.p X.p Y.p)[3 + i]? = some (dif O.p V.p) := by
            rcases (show i = 0 ∨ i = 1 by omega) with rfl | rfl
            · exact ⟨X, rfl, HX.out, rfl⟩
            · exact ⟨Y, rfl, HY.out, rfl⟩
          obtain ⟨c0, c1, c2⟩ := bk_wd2 (H5.out.below HW.out H5.out.lt) hV
          have c3 : wr.cell? ⟨w.heap.size, 0, none⟩ = some (.slice O.kA O.kn O.kc) := (HBX3.out.1.below HW.out HBX3.out.1.lt).cell 0
          have c4 : (wr.alloc (.cells #[.slice V.kA V.kn V.kc, .slice V.gA V.gn V.gc, .slice V.iA V.im V.ic] 52)).cell? ⟨w.heap.size, 0, none⟩ = some (.slice O.kA O.kn O.kc) := ((HBX3.out.1.below HW.out HBX3.out.1.lt).alloc _).cell 0
          have hb2 : Below w.heap.size w (wr.alloc (.cells #[.slice V.kA V.kn V.kc, .slice V.gA V.gn V.gc, .slice V.iA V.im V.ic] 52)) := Below.al (HB3.out.trans (HW.out.mono HB3.out.size)) _
          obtain ⟨d, hd⟩ : ∃ d, d = decide (O.ks.map Kd.p = V.ks.map Kd.p) := ⟨_, rfl⟩
          have HCK := Lib.hid (eqKinds_any (HO.out.ks.below (hb2.mono hBw)) (hok.ks.below (hb2.mono hBw)))
          rw [← hd] at HCK
          have hst := bad1_step hck
          rw [HZ.out, if_pos rfl] at hst
          have hdd : dif O.p V.p = if d = true then 0 else 8 := by
            rw [hd]; unfold dif
            by_cases h : O.p.ks = V.p.ks
            · rw [if_pos h, decide_eq_true (show O.ks.map Kd.p = V.ks.map Kd.p from h)]; rfl
            · rw [if_neg h, decide_eq_false (show ¬ O.ks.map Kd.p = V.ks.map Kd.p from h)]; rfl
          rw [hdd] at hst
          have HST : Hid (bad1 ((badL O.p X.p Y.p).take (3 + (i + 1))) = if d = true then 0 else 8) := Lib.hid hst
          have HW2 : Hid (Below W2.heap.size W2 (wr.alloc (.cells #[.slice V.kA V.kn V.kc, .slice V.gA V.gn V.gc, .slice V.iA V.im V.ic] 52))) := Lib.hid (Below.al HW.out _)
          clear hok hck hV hb2 hd hst hdd
          go_wp2_with fail
          (with_reducible refine HCK.out.mono ?_)
          rintro e w3 ⟨rfl, hb3⟩
          have HW3 : Hid (Below W2.heap.size W2 w3) := Lib.hid (Below.tr HW2.out hb3)
          clear hb3 HCK HW2 c0 c1 c2 c3 c4
          cases d
          · have HBD2 : Hid (badF O.p X.p Y.p = 8) := Lib.hid (by
              have h : bad1 (List.take (3 + (i + 1)) (badL O.p X.p Y.p)) ≠ 0 := by rw [HST.out]; decide
              exact (bad1_stop h).trans HST.out)
            have hbx : Bk w3 (w.heap.size + 3) 52 #[.slice none 0 0, .slice none 0 0, .slice none 0 0] := HBX3.out.2.2.2.below HW3.out HBX3.out.2.2.2.lt
            have hlt3 := hbx.lt
            have n0 : w3.cell? ⟨w.heap.size + 3, 0, none⟩ = some (.slice none 0 0) := hbx.cell 0
            have n1 : w3.cell? ⟨w.heap.size + 3, 1, none⟩ = some (.slice none 0 0) := hbx.cell 1
            have n2 : w3.cell? ⟨w.heap.size + 3, 2, none⟩ = some (.slice none 0 0) := hbx.cell 2
            have m0 := hbx.frozen 0
            have m1 := hbx.frozen 1
            have m2 := hbx.frozen 2
            have HB4 : Hid (Below w.heap.size w w3) := Lib.hid (HB3.out.trans (HW3.out.mono HB3.out.size))
            clear HZ HW HW3 HST HBX3 HB3 H5
            go_wp2_with fail
            (try simp only [Exit.inBlock, Exit.then])
            refine bodyPost_ret (v := .tuple #[.agg #[.slice none 0 0, .slice none 0 0, .slice none 0 0], .slice none 0 0, .int .i64 8]) ?_ rfl ⟨by rw [HBD2.out], ?_⟩
            · rw [results_c3 rfl]
              go_simp
            · (repeat' first | with_reducible exact HB4.out | with_reducible refine Below.setCell ?_ (by dsimp only; omega) _)
          · go_wp2_with fail
            go_roundw
            case rel => first | exact ⟨i + 1, by omega, by go_num, HST, HW3⟩ | ((repeat apply Exists.intro); exact ⟨⟨i + 1, by omega, by go_num, HST, HW3⟩, rfl⟩)
            case measure => simp [intOf]; omega
        · obtain rfl : i = 2 := by omega
          exact absurd (show badF O.p X.p Y.p = 0 from HZ.out) HBD.out

/-! ### Kinds, as the law compares them -/
set_option maxHeartbeats 800000 in
theorem clo34_any {wx : World} {B B' : Nat} (x y : Kd) (hx : KdOk wx B x) (hy : KdOk wx B' y) (hB : B ≤ wx.heap.size) (hB' : B' ≤ wx.heap.size) :
    Calls Try.prog 34 #[.agg #[.string x.nm, .slice x.A x.n x.c], .agg #[.string y.nm, .slice y.A y.n y.c]] wx fun e w' => e = .returned (.bool (decide (x.p = y.p))) ∧ Below wx.heap.size wx w' := by
  obtain ⟨xk, xA, xn, xc, xv⟩ := x
  obtain ⟨yk, yA, yn, yc, yv⟩ := y
  show Calls Try.prog 34 #[.agg #[.string xk, .slice xA xn xc], .agg #[.string yk, .slice yA yn yc]] wx _
  have hb1 : Below wx.heap.size wx ((wx.alloc (.cells #[.string xk, .slice xA xn xc] 63)).alloc (.cells #[.string yk, .slice yA yn yc] 63)) := ((Below.refl _ _).alloc (Nat.le_refl _) _).alloc (by simp) _
  have heq := equalFds_any xA yA xn xc yn yc (max B B') xv yv ((wx.alloc (.cells #[.string xk, .slice xA xn xc] 63)).alloc (.cells #[.string yk, .slice yA yn yc] 63)) hx.len hy.len (by have := hx.cap; have := hx.cap2; dsimp only at *; omega) ((hx.rd.below (hb1.mono hB)).more (by omega)) ((hy.rd.below (hb1.mono hB')).more (by omega))
  have HEQ := Lib.hid heq
  have HB1 := Lib.hid hb1
  clear hx hy hb1 heq
  by_cases hk : xk = yk
  · subst hk
    have hd : decide ((⟨xk, xA, xn, xc, xv⟩ : Kd).p = (⟨xk, yA, yn, yc, yv⟩ : Kd).p) = decide (xv = yv) := by
      rw [decide_eq_decide]; unfold Kd.p; simp
    rw [hd]
    clear hd
    obtain ⟨d, hd⟩ : ∃ d, d = decide (xv = yv) := ⟨_, rfl⟩
    rw [← hd] at HEQ ⊢
    clear hd
    have t0 : (xk.toList == xk.toList) = true := by simp
    go_enter Try.func34, Try.ntmps34
    go_wp2_with fail
    (with_reducible refine HEQ.out.mono ?_)
    rintro e w3 ⟨rfl, m, rfl⟩
    have HBn := Lib.hid (below_dn HB1.out m)
    go_wp2_with fail
    go_ret
    exact ⟨ret_b (by simp), HBn.out⟩
  · have hd : decide ((⟨xk, xA, xn, xc, xv⟩ : Kd).p = (⟨yk, yA, yn, yc, yv⟩ : Kd).p) = false := by
      rw [decide_eq_false]; unfold Kd.p; intro e; injection e with e; exact hk e
    rw [hd]
    clear hd
    have t0 : (xk.toList == yk.toList) = false := ba_tl_ne hk
    clear hk
    go_enter Try.func34, Try.ntmps34
    go_wp2_with fail
    go_ret
    exact ⟨rfl, HB1.out⟩

set_option maxHeartbeats 1600000 in
theorem eqKinds34_any {w : World} {B B' n n' c c' : Nat} {A A' : Option Addr} {l l' : List Kd} (h : KsOk w B A n c l) (h' : KsOk w B' A' n' c' l') :
    Calls Try.prog 33 #[.slice A n c, .slice A' n' c', .func (.func 34) #[] #[]] w fun e w' => e = .returned (.bool (decide (l.map Kd.p = l'.map Kd.p))) ∧ Below w.heap.size w w' := by
  have hcap := h.cap
  have hcap2 := h.cap2
  have hcap' := h'.cap
  have hcap2' := h'.cap2
  by_cases h0 : n = n'
  · subst h0
    have t0 : ((n : Int) != n) = false := by simp
    have HK := Lib.hid h
    have HK' := Lib.hid h'
    have hB := h.lo
    have hB' := h'.lo
    clear h h'
    go_enter Try.func33, Try.ntmps33
    go_wp2_with fail
    go_loopw [17] (fun i wr => ∃ k : Nat, k ≤ n ∧ i = .int .i64 k ∧ Hid ((l.map Kd.p).take k = (l'.map Kd.p).take k) ∧ Hid (Below w.heap.size w wr)) (fun i _ => n - (intOf i).toNat)
    case atStart => exact ⟨0, Nat.zero_le _, rfl, Lib.hid rfl, Lib.hid (Below.refl _ _)⟩
    case round =>
      obtain ⟨k, hk, rfl, HT, HW⟩ := hrel
      by_cases hlt : k < n
      · obtain ⟨x, hx⟩ : ∃ x, l[k]? = some x := ⟨_, List.getElem?_eq_getElem (by have := HK.out.len; omega)⟩
        obtain ⟨y, hy⟩ : ∃ y, l'[k]? = some y := ⟨_, List.getElem?_eq_getElem (by have := HK'.out.len; omega)⟩
        have hbw := HW.out.mono hB
        have hbw' := HW.out.mono hB'
        obtain ⟨b, o, rfl, hb, q0, q1⟩ := (HK.out.below hbw).rd.kd hlt hx
        obtain ⟨b', o', rfl, hb', r0, r1⟩ := (HK'.out.below hbw').rd.kd hlt hy
        have HX : Hid ((l.map Kd.p)[k]? = some x.p) := Lib.hid (by rw [List.getElem?_map, hx]; rfl)
        have HY : Hid ((l'.map Kd.p)[k]? = some y.p) := Lib.hid (by rw [List.getElem?_map, hy]; rfl)
        have hb1 : Below wr.heap.size wr ((wr.alloc (.cells #[.string x.nm, .slice x.A x.n x.c] 63)).alloc (.cells #[.string y.nm, .slice y.A y.n y.c] 63)) := ((Below.refl _ _).alloc (Nat.le_refl _) _).alloc (by simp) _
        have hcl := clo34_any x y (wx := ((wr.alloc (.cells #[.string x.nm, .slice x.A x.n x.c] 63)).alloc (.cells #[.string y.nm, .slice y.A y.n y.c] 63))) (((HK.out.below hbw).ok x (List.mem_of_getElem? hx)).below (hb1.mono (Nat.le_trans hB HW.out.size))) (((HK'.out.below hbw').ok y (List.mem_of_getElem? hy)).below (hb1.mono (Nat.le_trans hB' HW.out.size))) (by have := HW.out.size; simp; omega) (by have := HW.out.size; simp; omega)
        obtain ⟨d, hd⟩ : ∃ d, d = decide (x.p = y.p) := ⟨_, rfl⟩
        rw [← hd] at hcl
        have HCL := Lib.hid hcl
        have HD := Lib.hid hd
        have HB1 := Lib.hid (HW.out.trans (hb1.mono HW.out.size))
        have hq := (((Below.refl wr.heap.size wr).alloc (Nat.le_refl _) (.cells #[.string x.nm, .slice x.A x.n x.c] 63)).block b' (by have := HW.out.size; omega))
        have HQ := Lib.hid hq
        have hkn : (k : Int) < n := by omega
        have hk0 : (0 : Int) ≤ k := by omega
        have hbr : b < wr.heap.size := by have := HW.out.size; omega
        have hbr' : b' < wr.heap.size := by have := HW.out.size; omega
        clear hx hy hbw hbw' hb1 hcl hd hq
        generalize hx_nm : x.nm = x_nm at *
        generalize hy_nm : y.nm = y_nm at *
        generalize hx_A : x.A = x_A at *
        generalize hy_A : y.A = y_A at *
        generalize hx_n : x.n = x_n at *
        generalize hy_n : y.n = y_n at *
        generalize hx_c : x.c = x_c at *
        generalize hy_c : y.c = y_c at *
        have HXY : True := trivial
        clear hx_nm hy_nm hx_A hy_A hx_n hy_n hx_c hy_c
        go_wp2_with fail
        (with_reducible refine HCL.out.mono ?_)
        rintro e w3 ⟨rfl, hb3⟩
        have HB3 := Lib.hid (HB1.out.trans (hb3.mono HB1.out.size))
        clear hb3
        cases d
        · go_wp2_with fail
          go_ret
          have hne : l.map Kd.p ≠ l'.map Kd.p := ne_of_at HX.out HY.out (of_decide_eq_false HD.out.symm)
          exact ⟨ret_b (by rw [decide_eq_false hne]), HB3.out⟩
        · go_wp2_with fail
          go_roundw
          case measure => simp [intOf]; omega
          case rel => exact ⟨k + 1, by omega, by go_num, Lib.hid (take_eq_succ HX.out HY.out HT.out (of_decide_eq_true HD.out.symm)), HB3⟩
      · obtain rfl : n = k := by omega
        go_wp2_with fail
        go_ret
        have h1 := HT.out
        rw [List.take_of_length_le (by rw [List.length_map, ← HK.out.len]; omega), List.take_of_length_le (by rw [List.length_map, ← HK'.out.len]; omega)] at h1
        exact ⟨ret_b (by simp [h1]), HW.out⟩
  · have t0 : ((n : Int) != n') = true := by simp; omega
    have HE : Hid (l.map Kd.p ≠ l'.map Kd.p) := Lib.hid (by
      intro e
      have := congrArg List.length e
      rw [List.length_map, List.length_map, ← h.len, ← h'.len] at this
      exact h0 this)
    clear h h' h0
    go_enter Try.func33, Try.ntmps33
    go_wp2_with fail
    go_ret
    exact ⟨ret_b (by simp [HE.out]), Below.refl _ _⟩
end Go.Proofs.Ytnidcmhfbkdioaa
