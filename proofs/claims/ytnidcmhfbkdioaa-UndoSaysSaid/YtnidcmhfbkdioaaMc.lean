/-
  The contract of world.Check. Conditions: what is read can be read.
-/
import Derived.Test.YtnidcmhfbkdioaaMw
import Derived.Test.YtnidcmhfbkdioaaWg
import Derived.StillTailTactics
namespace Go.Proofs.Ytnidcmhfbkdioaa
open Go.RowKit
set_option maxRecDepth 100000

theorem wcheckF_ks {w : Wv Kp2} (h : checkF w.ks ≠ 0) : wcheckF w = checkF w.ks := by unfold wcheckF; rw [if_pos h]
theorem wcheckF_big {w : Wv Kp2} (h : checkF w.ks = 0) (h2 : 256 < w.gens.length ∨ w.gens.length < w.its.length) : wcheckF w = 2 := by unfold wcheckF; rw [if_neg (by omega), if_pos h2]
theorem wcheckF_gen {w : Wv Kp2} (h : checkF w.ks = 0) (h2 : ¬ (256 < w.gens.length ∨ w.gens.length < w.its.length)) {g : Int} (hg : g ∈ w.gens) (hb : genOk g = false) : wcheckF w = 3 := by
  unfold wcheckF; rw [if_neg (by omega), if_neg h2, if_neg]
  intro e
  rw [List.all_eq_true.1 e g hg] at hb; cases hb
theorem wcheckF_its {w : Wv Kp2} (h : checkF w.ks = 0) (h2 : ¬ (256 < w.gens.length ∨ w.gens.length < w.its.length)) (hg : ∀ g ∈ w.gens, genOk g = true) : wcheckF w = if itChk w.ks w.gens (-1) w.its = true then 0 else 3 := by
  unfold wcheckF; rw [if_neg (by omega), if_neg h2, if_pos (List.all_eq_true.2 hg)]

set_option maxHeartbeats 3200000 in
theorem wcheck_any {w : World} {B : Nat} {x : Wd} (h : WdOk w B x) : Calls Try.prog 32 #[x.v] w fun e w' => e = .returned (.int .i64 (wcheckF x.p)) ∧ Below w.heap.size w w' := by
  obtain ⟨R, hR⟩ : ∃ R, R = wcheckF x.p := ⟨_, rfl⟩
  rw [← hR]
  obtain ⟨kA, kn, kc, ks, gA, gn, gc, gens, iA, im, ic, its⟩ := x
  obtain ⟨hk, hg, hi⟩ := h
  dsimp only at hk hg hi
  show Calls Try.prog 32 #[.agg #[.slice kA kn kc, .slice gA gn gc, .slice iA im ic]] w _
  have hgc := hg.cap
  have hgc2 := hg.cap2
  have hic := hi.cap
  have hic2 := hi.cap2
  have hb1 := (Below.refl w.heap.size w).alloc (Nat.le_refl _) (.cells #[.slice kA kn kc, .slice gA gn gc, .slice iA im ic] 52)
  have hk1 := Bk.new w 52 #[.slice kA kn kc, .slice gA gn gc, .slice iA im ic]
  have h1 := hk.below (hb1.mono hk.lo)
  have hck := check_any kA kn kc B ks _ h1.rd h1.len h1.cap h1.cap2 h1.ok h1.lo
  obtain ⟨cv, hcv⟩ : ∃ cv, cv = checkF (ks.map Kd.p) := ⟨_, rfl⟩
  rw [← hcv] at hck
  have HCV := Lib.hid hcv
  have HR := Lib.hid hR
  have HK := Lib.hid hk
  have HG := Lib.hid hg
  have HI := Lib.hid hi
  have HB1 := Lib.hid hb1
  have HK1 := Lib.hid hk1
  have HCK := Lib.hid hck
  clear hR hk hg hi hb1 hk1 h1 hck hcv
  go_enter Try.func32, Try.ntmps32
  go_wp2_with fail
  (with_reducible refine HCK.out.mono ?_)
  rintro e w2 ⟨rfl, hb2⟩
  have hk2 := HK1.out.below hb2 HK1.out.lt
  have HB2 := Lib.hid (HB1.out.trans (hb2.mono HB1.out.size))
  have c0 : w2.cell? ⟨w.heap.size, 0, none⟩ = some (.slice kA kn kc) := hk2.cell 0
  have c1 : w2.cell? ⟨w.heap.size, 1, none⟩ = some (.slice gA gn gc) := hk2.cell 1
  have c2 : w2.cell? ⟨w.heap.size, 2, none⟩ = some (.slice iA im ic) := hk2.cell 2
  have HK2 := Lib.hid hk2
  clear hk2 hb2 HB1 HK1 HCK
  have hB := HK.out.lo
  by_cases hc0 : cv = 0
  · subst hc0
    by_cases hg256 : 256 < gn
    · have hz : (256 : Int) < gn := by omega
      have hRR : R = 2 := by
        rw [HR.out]
        exact wcheckF_big HCV.out.symm (.inl (by show 256 < gens.length; have := HG.out.len; omega))
      subst hRR
      go_wp2_with fail
      go_ret
      exact ⟨rfl, HB2.out⟩
    · have hz : ¬ (256 : Int) < gn := by omega
      by_cases hgi : gn < im
      · have hz2 : (gn : Int) < im := by omega
        have hRR : R = 2 := by
          rw [HR.out]
          exact wcheckF_big HCV.out.symm (.inr (by show gens.length < (its.map It.p).length; have := HG.out.len; have := HI.out.len; rw [List.length_map]; omega))
        subst hRR
        go_wp2_with fail
        go_ret
        exact ⟨rfl, HB2.out⟩
      · have hz2 : ¬ (gn : Int) < im := by omega
        have HNB : Hid (¬ (256 < gens.length ∨ gens.length < (its.map It.p).length)) := Lib.hid (by have := HG.out.len; have := HI.out.len; rw [List.length_map]; omega)
        go_wp2_with fail
        go_loopw [31] (fun iv wr => ∃ k : Nat, k ≤ gn ∧ iv = .int .i64 k ∧ Hid (∀ g ∈ gens.take k, genOk g = true) ∧ w2 = wr) (fun iv _ => gn - (intOf iv).toNat)
        case atStart => exact ⟨0, Nat.zero_le _, rfl, Lib.hid (fun g hg => by simp at hg), rfl⟩
        case round =>
          obtain ⟨k, hk, rfl, HA, rfl⟩ := hrel
          by_cases hlt : k < gn
          · obtain ⟨g, hg⟩ : ∃ g, gens[k]? = some g := ⟨_, List.getElem?_eq_getElem (by have := HG.out.len; omega)⟩
            obtain ⟨b, o, rfl, hbb, q0⟩ := ((HG.out.rd).below (HB2.out.mono HG.out.lo)).at1 hlt (u := .int .i64 g) (by rw [List.getElem?_map, hg]; rfl)
            have HGK := Lib.hid hg
            have hkz : (k : Int) < gn := by omega
            clear hg
            by_cases h0 : g < 0
            · have hRR : R = 3 := by
                rw [HR.out]
                exact wcheckF_gen HCV.out.symm HNB.out (List.mem_of_getElem? HGK.out) (by unfold genOk; rw [decide_eq_false (show ¬ 0 ≤ g by omega)]; rfl)
              subst hRR
              go_wp2_with fail
              go_ret
              exact ⟨rfl, HB2.out⟩
            · by_cases hM : 1073741824 < g
              · have hRR : R = 3 := by
                  rw [HR.out]
                  exact wcheckF_gen HCV.out.symm HNB.out (List.mem_of_getElem? HGK.out) (by unfold genOk; rw [decide_eq_false (show ¬ g ≤ 1073741824 by omega)]; simp)
                subst hRR
                go_wp2_with fail
                go_ret
                exact ⟨rfl, HB2.out⟩
              · go_wp2_with fail
                go_roundw
                case measure => simp [intOf]; omega
                case rel => exact ⟨k + 1, by omega, by go_num, Lib.hid (fun y hy => by
                  rw [List.take_add_one, HGK.out] at hy
                  rcases List.mem_append.1 hy with hy | hy
                  · exact HA.out y hy
                  · have e : y = g := by simpa using hy
                    rw [e]; unfold genOk; rw [decide_eq_true (show 0 ≤ g by omega), decide_eq_true (show g ≤ 1073741824 by omega)]; rfl), trivial⟩
          · obtain rfl : gn = k := by omega
            have HRI : Hid (R = if itChk (ks.map Kd.p) gens (-1) ((its.drop 0).map It.p) = true then 0 else 3) := Lib.hid (by
              have hA := HA.out
              rw [List.take_of_length_le (by rw [← HG.out.len]; omega)] at hA
              rw [HR.out, List.drop_zero]
              exact wcheckF_its HCV.out.symm HNB.out hA)
            clear HA HR
            go_wp2_with fail
            go_loopw [6, 45] (fun lv iv wr => ∃ (i : Nat) (lst : Int), i ≤ im ∧ iv = .int .i64 i ∧ lv = .int .i64 lst ∧ -1 ≤ lst ∧ Hid (R = if itChk (ks.map Kd.p) gens lst ((its.drop i).map It.p) = true then 0 else 3) ∧ Hid (Below w2.heap.size w2 wr)) (fun _ iv _ => im - (intOf iv).toNat)
            case atStart => exact ⟨0, -1, Nat.zero_le _, rfl, rfl, by omega, HRI, Lib.hid (Below.refl _ _)⟩
            case round =>
              clear HRI c0 c1 c2
              obtain ⟨i, lst, hi, rfl, rfl, hl1, HRI, HW⟩ := hrel
              by_cases hil : i < im
              · obtain ⟨x, hx⟩ : ∃ x, its[i]? = some x := ⟨_, List.getElem?_eq_getElem (by have := HI.out.len; omega)⟩
                have hrr := HRI.out
                rw [List.drop_eq_getElem_cons (by have := HI.out.len; omega), (List.getElem?_eq_some_iff.1 hx).2, List.map_cons] at hrr
                have hrr2 : R = if (itOne (ks.map Kd.p) gens lst x.p && itChk (ks.map Kd.p) gens x.e ((its.drop (i + 1)).map It.p)) = true then 0 else 3 := hrr
                have hbw : Below B w wr := (HB2.out.mono hB).trans (HW.out.mono (Nat.le_trans hB HB2.out.size))
                obtain ⟨b, o, rfl, hbb, q0, q1, q2⟩ := (HI.out.below hbw).rd.it hil hx
                have hxo := (HI.out.below hbw).ok x (List.mem_of_getElem? hx)
                have hxr := bounds_i64 hxo.wf1
                have hiz : (i : Int) < im := by omega
                obtain ⟨xe, hxe⟩ : ∃ v, v = x.e := ⟨_, rfl⟩
                obtain ⟨xg, hxg⟩ : ∃ v, v = x.g := ⟨_, rfl⟩
                obtain ⟨xA, hxA⟩ : ∃ v, v = x.A := ⟨_, rfl⟩
                obtain ⟨xn, hxn⟩ : ∃ v, v = x.n := ⟨_, rfl⟩
                obtain ⟨xc, hxc⟩ : ∃ v, v = x.c := ⟨_, rfl⟩
                rw [← hxe] at q0 hxr hrr2
                rw [← hxg] at q1
                rw [← hxA, ← hxn, ← hxc] at q2
                have hcso := hxo.cs
                rw [← hxA, ← hxn, ← hxc] at hcso
                have HP : Hid (x.p = ((xe, xg), x.cms.map Cm.p)) := Lib.hid (by rw [hxe, hxg]; rfl)
                have HCS := Lib.hid hcso
                have HRR := Lib.hid hrr2
                have HKW := Lib.hid (HK.out.below hbw)
                have HGW := Lib.hid (HG.out.below hbw)
                have hb1 := (Below.refl wr.heap.size wr).alloc (Nat.le_refl _) (.cells #[.int .i64 xe, .int .i64 xg, .slice xA xn xc] 147)
                have hh1 := Bk.new wr 147 #[.int .i64 xe, .int .i64 xg, .slice xA xn xc]
                have hkd : Bk (wr.alloc (.cells #[.int .i64 xe, .int .i64 xg, .slice xA xn xc] 147)) w.heap.size 52 #[.slice kA kn kc, .slice gA gn gc, .slice (some ⟨b, o, none⟩) im ic] := (HK2.out.below HW.out HK2.out.lt).alloc _
                have HB1w := Lib.hid (HB2.out.trans ((HW.out.trans (hb1.mono HW.out.size)).mono HB2.out.size))
                have HBB := Lib.hid (hb1.mono (Nat.le_trans hB hbw.size))
                have HW1 := Lib.hid (HW.out.trans (hb1.mono HW.out.size))
                have HH1 := Lib.hid hh1
                have HKD := Lib.hid hkd
                have hBr := hbw.size
                clear hx hrr hrr2 hxo hcso hxe hxg hxA hxn hxc hb1 hh1 hkd hbw HRI
                by_cases hA : xe ≤ lst
                · have hRf : R = 3 := by
                    rw [HRR.out, HP.out]; unfold itOne
                    rw [decide_eq_false (show ¬ lst < xe by omega), Bool.false_and, Bool.false_and]; rfl
                  subst hRf
                  have t0 : decide (xe ≤ lst) = true := decide_eq_true hA
                  go_wp2_with fail
                  generalize wr.alloc (.cells #[.int .i64 xe, .int .i64 xg, .slice xA xn xc] 147) = W1 at *
                  generalize wr.heap.size = hh at *
                  have e0 : W1.cell? ⟨hh, 0, none⟩ = some (.int .i64 xe) := HH1.out.cell 0
                  go_quiet (fail)
                  have HWn := Lib.hid (below_dn HB1w.out nq)
                  go_wp2_with fail
                  go_ret
                  exact ⟨rfl, HWn.out⟩
                · obtain ⟨N, rfl⟩ : ∃ N : Nat, xe = N := ⟨xe.toNat, by omega⟩
                  have t0 : decide ((N : Int) ≤ lst) = false := decide_eq_false hA
                  by_cases hBn : gn ≤ N
                  · have hRf : R = 3 := by
                      rw [HRR.out, HP.out]; unfold itOne
                      rw [Int.toNat_natCast, List.getElem?_eq_none (by rw [← HG.out.len]; exact hBn)]
                      simp
                    subst hRf
                    have t1 : decide ((gn : Int) ≤ N) = true := decide_eq_true (by omega)
                    have t1' : decide (gn ≤ N) = true := decide_eq_true hBn
                    go_wp2_with fail
                    generalize wr.alloc (.cells #[.int .i64 (N : Int), .int .i64 xg, .slice xA xn xc] 147) = W1 at *
                    generalize wr.heap.size = hh at *
                    have e0 : W1.cell? ⟨hh, 0, none⟩ = some (.int .i64 N) := HH1.out.cell 0
                    have e1 : W1.cell? ⟨w.heap.size, 1, none⟩ = some (.slice gA gn gc) := HKD.out.cell 1
                    go_quiet (fail)
                    have HWn := Lib.hid (below_dn HB1w.out nq)
                    go_wp2_with fail
                    go_ret
                    exact ⟨rfl, HWn.out⟩
                  · have t1 : decide ((gn : Int) ≤ N) = false := decide_eq_false (by omega)
                    have t1' : decide (gn ≤ N) = false := decide_eq_false hBn
                    have hNz : (N : Int) < gn := by omega
                    obtain ⟨g, hg⟩ : ∃ g, gens[N]? = some g := ⟨_, List.getElem?_eq_getElem (by have := HG.out.len; omega)⟩
                    obtain ⟨gb, go, rfl, hgb, g0⟩ := HGW.out.rd.at1 (k := N) (by omega) (u := .int .i64 g) (by rw [List.getElem?_map, hg]; rfl)
                    have g1 := (HBB.out.cell (p := ⟨gb, go + N, none⟩) hgb).trans g0
                    have hone : itOne (ks.map Kd.p) gens lst x.p = (decide (g = xg) && (decide (xg ≠ 1073741824) && heldF (ks.map Kd.p) (-1) (x.cms.map Cm.p))) := by
                      rw [HP.out]; unfold itOne
                      rw [decide_eq_true (show lst < (N : Int) by omega), Int.toNat_natCast, hg, Bool.true_and]
                      simp
                    have HON := Lib.hid hone
                    clear hone g0 hg
                    by_cases hC : g = xg
                    · subst hC
                      have t2 : (g != g) = false := by simp
                      by_cases hD : g = 1073741824
                      · have hRf : R = 3 := by
                          rw [HRR.out, HON.out]
                          simp [hD]
                        subst hRf
                        have t3 : (g == 1073741824) = true := by simp [hD]
                        clear hD
                        go_wp2_with fail
                        generalize wr.alloc (.cells #[.int .i64 (N : Int), .int .i64 g, .slice xA xn xc] 147) = W1 at *
                        generalize wr.heap.size = hh at *
                        have e0 : W1.cell? ⟨hh, 0, none⟩ = some (.int .i64 N) := HH1.out.cell 0
                        have e2 : W1.cell? ⟨hh, 1, none⟩ = some (.int .i64 g) := HH1.out.cell 1
                        have e1 : W1.cell? ⟨w.heap.size, 1, none⟩ = some (.slice (some ⟨gb, go, none⟩) gn gc) := HKD.out.cell 1
                        go_quiet (fail)
                        have HWn := Lib.hid (below_dn HB1w.out nq)
                        go_wp2_with fail
                        go_ret
                        exact ⟨rfl, HWn.out⟩
                      · have t3 : (g == 1073741824) = false := by simp [hD]
                        obtain ⟨hv, hhv⟩ : ∃ hv, hv = heldF (ks.map Kd.p) (-1) (x.cms.map Cm.p) := ⟨_, rfl⟩
                        have HRX : Hid (R = if (hv && itChk (ks.map Kd.p) gens N ((its.drop (i + 1)).map It.p)) = true then 0 else 3) := Lib.hid (by
                          rw [HRR.out, HON.out, ← hhv, decide_eq_true rfl, decide_eq_true hD, Bool.true_and, Bool.true_and])
                        have hho := fun wx (hbx : Below B wr wx) => held_any (HKW.out.below hbx) (HCS.out.below hbx)
                        rw [← hhv] at hho
                        have HHO := Lib.hid hho
                        clear hho hhv hD HRR HON HP HCS HGW HKW
                        go_wp2_with fail
                        generalize wr.alloc (.cells #[.int .i64 (N : Int), .int .i64 g, .slice xA xn xc] 147) = W1 at *
                        generalize wr.heap.size = hh at *
                        have e0 : W1.cell? ⟨hh, 0, none⟩ = some (.int .i64 N) := HH1.out.cell 0
                        have e2 : W1.cell? ⟨hh, 1, none⟩ = some (.int .i64 g) := HH1.out.cell 1
                        have e3 : W1.cell? ⟨hh, 2, none⟩ = some (.slice xA xn xc) := HH1.out.cell 2
                        have e4 : W1.cell? ⟨w.heap.size, 0, none⟩ = some (.slice kA kn kc) := HKD.out.cell 0
                        have e1 : W1.cell? ⟨w.heap.size, 1, none⟩ = some (.slice (some ⟨gb, go, none⟩) gn gc) := HKD.out.cell 1
                        go_still_tail 38, (by kernel_rfl)
                        change wpList _ _ _ _ _ W1.drew
                        have HHD : Hid (Bk W1.drew hh 147 #[.int .i64 (N : Int), .int .i64 g, .slice xA xn xc]) := Lib.hid HH1.out.drew
                        have HBD : Hid (Below w.heap.size w W1.drew) := Lib.hid HB1w.out.drew
                        have HHO2 := Lib.hid (HHO.out _ HBB.out.drew)
                        have HBW2 : Hid (Below w2.heap.size w2 W1.drew) := Lib.hid HW1.out.drew
                        clear HHO e0 e1 e2 e3 e4 g1 HH1 HB1w HBB HKD
                        generalize W1.drew = W2 at *
                        go_wp2_with fail
                        (with_reducible refine HHO2.out.mono ?_)
                        rintro e w3 ⟨rfl, hb3⟩
                        have hh3 := HHD.out.below hb3 HHD.out.lt
                        have e0 : w3.cell? ⟨hh, 0, none⟩ = some (.int .i64 N) := hh3.cell 0
                        have HB3 := Lib.hid (HBD.out.trans (hb3.mono HBD.out.size))
                        have HB3w := Lib.hid (HBW2.out.trans (hb3.mono HBW2.out.size))
                        clear hb3 hh3
                        cases hv
                        · have hRf : R = 3 := by rw [HRX.out]; rfl
                          subst hRf
                          go_wp2_with fail
                          go_ret
                          exact ⟨rfl, HB3.out⟩
                        · have HRN : Hid (R = if itChk (ks.map Kd.p) gens N ((its.drop (i + 1)).map It.p) = true then 0 else 3) := Lib.hid (by rw [HRX.out]; rfl)
                          go_wp2_with fail
                          go_roundw
                          case measure => simp [intOf]; omega
                          case rel => exact ⟨i + 1, N, by omega, by go_num, rfl, by omega, HRN, HB3w⟩
                    · have hRf : R = 3 := by
                        rw [HRR.out, HON.out, decide_eq_false hC]; rfl
                      subst hRf
                      have t2 : (xg != g) = true := by simp; omega
                      go_wp2_with fail
                      generalize wr.alloc (.cells #[.int .i64 (N : Int), .int .i64 xg, .slice xA xn xc] 147) = W1 at *
                      generalize wr.heap.size = hh at *
                      have e0 : W1.cell? ⟨hh, 0, none⟩ = some (.int .i64 N) := HH1.out.cell 0
                      have e2 : W1.cell? ⟨hh, 1, none⟩ = some (.int .i64 xg) := HH1.out.cell 1
                      have e1 : W1.cell? ⟨w.heap.size, 1, none⟩ = some (.slice (some ⟨gb, go, none⟩) gn gc) := HKD.out.cell 1
                      go_quiet (fail)
                      have HWn := Lib.hid (below_dn HB1w.out nq)
                      go_wp2_with fail
                      go_ret
                      exact ⟨rfl, HWn.out⟩
              · obtain rfl : i = im := by omega
                have hR2 := HRI.out
                rw [List.drop_of_length_le (by rw [← HI.out.len]; omega)] at hR2
                have hR3 : R = 0 := by rw [hR2]; rfl
                subst hR3
                have HWf := Lib.hid (HB2.out.trans (HW.out.mono HB2.out.size))
                go_wp2_with fail
                go_ret
                exact ⟨rfl, HWf.out⟩
  · have hRR : R = cv := by rw [HR.out, wcheckF_ks (show checkF (ks.map Kd.p) ≠ 0 from fun e => hc0 (by rw [HCV.out]; exact e)), HCV.out]; rfl
    subst hRR
    have hcb : (R != 0) = true := by simp [hc0]
    go_wp2_with fail
    go_ret
    exact ⟨rfl, HB2.out⟩
end Go.Proofs.Ytnidcmhfbkdioaa
