/-
  Lemmas for the walk, merged (Wg Mc Kj Kl Km Kn Ko Mn Mo Mh). No condition but those in each statement.
-/
import Derived.StillTailTactics
import Derived.Laws.ResultCell
import Derived.Deep.CutBlock
import Derived.Test.YtnidcmhfbkdioaaSz6
import Derived.Test.YtnidcmhfbkdioaaSz12
import Derived.Test.YtnidcmhfbkdioaaSz5
import Derived.Test.YtnidcmhfbkdioaaSz9
import Derived.Test.YtnidcmhfbkdioaaSz8
import Derived.Test.YtnidcmhfbkdioaaSz10
namespace Go.Proofs.Ytnidcmhfbkdioaa
/-! ### Wg -/
open Go.RowKit
set_option maxRecDepth 100000
set_option maxHeartbeats 3200000 in
theorem held_any {w : World} {B kn kc n c : Nat} {kA A : Option Addr} {ks : List Kd} {l : List Cm} (hk : KsOk w B kA kn kc ks) (hc : CsOk w B A n c l) :
    Calls Try.prog 107 #[.slice kA kn kc, .slice A n c] w fun e w' => e = .returned (.bool (heldF (ks.map Kd.p) (-1) (l.map Cm.p))) ∧ Below w.heap.size w w' := by
  obtain ⟨R, hR⟩ : ∃ R, R = heldF (ks.map Kd.p) (-1) (l.map Cm.p) := ⟨_, rfl⟩
  rw [← hR]
  have hcap := hk.cap
  have hcap2 := hk.cap2
  have hcc := hc.cap
  have hcc2 := hc.cap2
  have HK := Lib.hid hk
  have HC := Lib.hid hc
  have HR : Hid (R = heldF (ks.map Kd.p) (-1) ((l.drop 0).map Cm.p)) := Lib.hid (by rw [List.drop_zero]; exact hR)
  clear hk hc hR
  go_enter Try.func107, Try.ntmps107
  go_wp2_with fail
  go_loopw [5, 10] (fun lv iv wr => ∃ (i : Nat) (lst : Int), i ≤ n ∧ iv = .int .i64 i ∧ lv = .int .i64 lst ∧ -1 ≤ lst ∧ Hid (R = heldF (ks.map Kd.p) lst ((l.drop i).map Cm.p)) ∧ Hid (Below w.heap.size w wr)) (fun _ iv _ => n - (intOf iv).toNat)
  case atStart => exact ⟨0, -1, Nat.zero_le _, rfl, rfl, by omega, HR, Lib.hid (Below.refl _ _)⟩
  case round =>
    clear HR
    obtain ⟨i, lst, hi, rfl, rfl, hl1, HR, HW⟩ := hrel
    by_cases hlt : i < n
    · obtain ⟨x, hx⟩ : ∃ x, l[i]? = some x := ⟨_, List.getElem?_eq_getElem (by have := HC.out.len; omega)⟩
      have hB := HC.out.lo
      have hrr := HR.out
      rw [List.drop_eq_getElem_cons (by have := HC.out.len; omega), (List.getElem?_eq_some_iff.1 hx).2, List.map_cons] at hrr
      have hrr2 : R = (heldOne (ks.map Kd.p) lst x.p && heldF (ks.map Kd.p) x.k ((l.drop (i + 1)).map Cm.p)) := hrr
      have hcw := HC.out.below (HW.out.mono hB)
      have hkw := HK.out.below (HW.out.mono hB)
      have hxo := hcw.ok x (List.mem_of_getElem? hx)
      have hxr := bounds_i64 hxo.wf
      obtain ⟨b, o, rfl, hbb, q0, q1⟩ := hcw.rd.cm hlt hx
      have hiz : (i : Int) < n := by omega
      obtain ⟨xk, hxk⟩ : ∃ xk, xk = x.k := ⟨_, rfl⟩
      obtain ⟨xA, hxA⟩ : ∃ xA, xA = x.A := ⟨_, rfl⟩
      obtain ⟨xn, hxn⟩ : ∃ xn, xn = x.n := ⟨_, rfl⟩
      obtain ⟨xc, hxc⟩ : ∃ xc, xc = x.c := ⟨_, rfl⟩
      rw [← hxk] at q0 hxr hrr2
      rw [← hxA, ← hxn, ← hxc] at q1
      have HXK := Lib.hid hxk
      have HXO := Lib.hid hxo
      have HRR := Lib.hid hrr2
      have HX3 := Lib.hid (And.intro hxA (And.intro hxn hxc))
      have HKW := Lib.hid hkw
      clear hx hrr hrr2 hcw hxo hxk hxA hxn hxc hkw HR
      have hb1 := (Below.refl wr.heap.size wr).alloc (Nat.le_refl _) (.cells #[.int .i64 xk, .slice xA xn xc] 166)
      have hh1 := Bk.new wr 166 #[.int .i64 xk, .slice xA xn xc]
      have HB1 := Lib.hid hb1
      have HH1 := Lib.hid hh1
      clear hb1 hh1
      have HB1w := Lib.hid (HW.out.trans (HB1.out.mono HW.out.size))
      have hl1' := hcap2
      by_cases h1 : xk ≤ lst
      · have hRf : R = false := by
          rw [HRR.out]; unfold heldOne Cm.p
          rw [← HXK.out, decide_eq_false (show ¬ lst < xk by omega)]; rfl
        subst hRf
        go_wp2_with fail
        generalize wr.alloc (.cells #[.int .i64 xk, .slice xA xn xc] 166) = W1 at *
        generalize wr.heap.size = hh at *
        have c0 : W1.cell? ⟨hh, 0, none⟩ = some (.int .i64 xk) := HH1.out.cell 0
        have c1 : W1.cell? ⟨hh, 1, none⟩ = some (.slice xA xn xc) := HH1.out.cell 1
        go_quiet (fail)
        have HWn := Lib.hid (below_dn HB1w.out nq)
        go_wp2_with fail
        go_ret
        exact ⟨rfl, HWn.out⟩
      · obtain ⟨K, rfl⟩ : ∃ K : Nat, xk = K := ⟨xk.toNat, by omega⟩
        by_cases h2 : kn ≤ K
        · have hRf : R = false := by
            rw [HRR.out]; unfold heldOne Cm.p
            rw [← HXK.out, Int.toNat_natCast, List.getElem?_eq_none (by rw [List.length_map, ← HK.out.len]; exact h2)]
            simp
          subst hRf
          have h2z : (kn : Int) ≤ K := by omega
          have t0 : decide ((K : Int) ≤ lst) = false := decide_eq_false h1
          have t1 : decide ((kn : Int) ≤ K) = true := decide_eq_true h2z
          go_wp2_with fail
          generalize wr.alloc (.cells #[.int .i64 (K : Int), .slice xA xn xc] 166) = W1 at *
          generalize wr.heap.size = hh at *
          have c0 : W1.cell? ⟨hh, 0, none⟩ = some (.int .i64 K) := HH1.out.cell 0
          have c1 : W1.cell? ⟨hh, 1, none⟩ = some (.slice xA xn xc) := HH1.out.cell 1
          go_quiet (fail)
          have HWn := Lib.hid (below_dn HB1w.out nq)
          go_wp2_with fail
          go_ret
          exact ⟨rfl, HWn.out⟩
        · have h2z : (K : Int) < kn := by omega
          have t0 : decide ((K : Int) ≤ lst) = false := decide_eq_false h1
          have t1 : decide ((kn : Int) ≤ K) = false := decide_eq_false (by omega)
          have t1' : decide (kn ≤ K) = false := decide_eq_false h2
          obtain ⟨kd, hkd⟩ : ∃ kd, ks[K]? = some kd := ⟨_, List.getElem?_eq_getElem (by have := HK.out.len; omega)⟩
          have hko := HKW.out.ok kd (List.mem_of_getElem? hkd)
          obtain ⟨kb, ko, rfl, hkb, k0, k1⟩ := HKW.out.rd.kd (by omega) hkd
          have hHo : heldOne (ks.map Kd.p) lst x.p = holdsF kd.nm kd.fds x.vals := by
            unfold heldOne Cm.p
            rw [← HXK.out, decide_eq_true (show lst < (K : Int) by omega), Int.toNat_natCast, List.getElem?_map, hkd]
            rfl
          have hrr := HRR.out
          rw [hHo] at hrr
          have hw1 := HB1.out
          have hBw : B ≤ wr.heap.size := Nat.le_trans hB HW.out.size
          have hB1B : Below B wr (wr.alloc (.cells #[.int .i64 (K : Int), .slice xA xn xc] 166)) := (hw1.mono hBw)
          have hho := fun wx (hbx : Below (wr.heap.size + 1) (wr.alloc (.cells #[.int .i64 (K : Int), .slice xA xn xc] 166)) wx) =>
            holds_any kd.nm kd.A kd.n kd.c kd.fds xA xn xc B x.vals wx (hko.rd.below (hB1B.trans (hbx.mono (by omega)))) hko.len hko.cap hko.cap2
            (by have h := HXO.out.rd.below (hB1B.trans (hbx.mono (by omega))); rw [← HX3.out.1, ← HX3.out.2.1] at h; exact h) (by rw [HX3.out.2.1]; exact HXO.out.len) (by rw [HX3.out.2.1, HX3.out.2.2]; exact HXO.out.cap) (by rw [HX3.out.2.2]; exact HXO.out.cap2) (by have := hbx.size; simp at this; omega)
          have k0' := (hB1B.cell (p := ⟨kb, ko + K * 2, none⟩) hkb).trans k0
          have k1' := (hB1B.cell (p := ⟨kb, ko + K * 2 + 1, none⟩) hkb).trans k1
          obtain ⟨hv, hhv⟩ : ∃ hv, hv = holdsF kd.nm kd.fds x.vals := ⟨_, rfl⟩
          rw [← hhv] at hho hrr
          have HHO := Lib.hid hho
          have HRX := Lib.hid hrr
          generalize kd.nm = dn at *
          generalize kd.A = dA at *
          generalize kd.n = dm at *
          generalize kd.c = dc at *
          clear hho hrr hhv hkd hko hHo k0 k1 hw1 HRR
          go_wp2_with fail
          have hszz : (wr.alloc (.cells #[.int .i64 (K : Int), .slice xA xn xc] 166)).heap.size = wr.heap.size + 1 := by simp
          have HSZ := Lib.hid hszz
          clear hszz
          generalize (wr.alloc (.cells #[.int .i64 (K : Int), .slice xA xn xc] 166)) = W1 at *
          generalize wr.heap.size = hh at *
          have c0 : W1.cell? ⟨hh, 0, none⟩ = some (.int .i64 K) := HH1.out.cell 0
          have c1 : W1.cell? ⟨hh, 1, none⟩ = some (.slice xA xn xc) := HH1.out.cell 1
          have HRT : Hid (R = (hv && heldF (ks.map Kd.p) K ((l.drop (i + 1)).map Cm.p))) := HRX
          clear HRX h2 HW HB1 HXO HX3 HKW
          go_still_tail 19, (by kernel_rfl)
          change wpList _ _ _ _ _ W1.drew
          have HB2 : Hid (Below (hh + 1) W1 W1.drew) := Lib.hid (Below.refl _ _).drew
          have HHD : Hid (Bk W1.drew hh 166 #[.int .i64 (K : Int), .slice xA xn xc]) := Lib.hid HH1.out.drew
          have HBD : Hid (Below w.heap.size w W1.drew) := Lib.hid HB1w.out.drew
          have HHO2 := Lib.hid (HHO.out _ HB2.out)
          clear HHO HB2 c0 c1 k0' k1' HSZ HH1 HB1w hB1B
          generalize W1.drew = W2 at *
          go_wp2_with fail
          (with_reducible refine HHO2.out.mono ?_)
          rintro e w3 ⟨rfl, hb3⟩
          have hh3 := HHD.out.below hb3 HHD.out.lt
          have e0 : w3.cell? ⟨hh, 0, none⟩ = some (.int .i64 K) := hh3.cell 0
          have HB3 := Lib.hid (HBD.out.trans (hb3.mono HBD.out.size))
          clear hb3 hh3
          cases hv
          · have hRf : R = false := by rw [HRT.out]; rfl
            subst hRf
            go_wp2_with fail
            go_ret
            exact ⟨rfl, HB3.out⟩
          · have HRN : Hid (R = heldF (ks.map Kd.p) K ((l.drop (i + 1)).map Cm.p)) := Lib.hid (by rw [HRT.out]; rfl)
            go_wp2_with fail
            go_roundw
            case measure => simp [intOf]; omega
            case rel => exact ⟨i + 1, K, by omega, by go_num, rfl, by omega, HRN, HB3⟩
    · obtain rfl : i = n := by omega
      have hR2 := HR.out
      rw [List.drop_of_length_le (by rw [← HC.out.len]; omega)] at hR2
      have hR3 : R = true := hR2
      subst hR3
      go_wp2_with fail
      go_ret
      exact ⟨rfl, HW.out⟩
/-! ### Mc -/
theorem wcheckF_ks {w : Wv Kp2} (h : checkF w.ks ≠ 0) : wcheckF w = checkF w.ks := by unfold wcheckF; rw [if_pos h]
theorem wcheckF_big {w : Wv Kp2} (h : checkF w.ks = 0) (h2 : 256 < w.gens.length ∨ w.gens.length < w.its.length) : wcheckF w = 2 := by unfold wcheckF; rw [if_neg (by omega), if_pos h2]
theorem wcheckF_gen {w : Wv Kp2} (h : checkF w.ks = 0) (h2 : ¬ (256 < w.gens.length ∨ w.gens.length < w.its.length)) {g : Int} (hg : g ∈ w.gens) (hb : genOk g = false) : wcheckF w = 3 := by
  unfold wcheckF; rw [if_neg (by omega), if_neg h2, if_neg]
  intro e
  rw [List.all_eq_true.1 e g hg] at hb; cases hb
theorem wcheckF_its {w : Wv Kp2} (h : checkF w.ks = 0) (h2 : ¬ (256 < w.gens.length ∨ w.gens.length < w.its.length)) (hg : ∀ g ∈ w.gens, genOk g = true) : wcheckF w = if itChk w.ks w.gens (-1) w.its = true then 0 else 3 := by
  unfold wcheckF; rw [if_neg (by omega), if_neg h2, if_pos (List.all_eq_true.2 hg)]
set_option maxHeartbeats 3200000 in
theorem wcheck_any {w : World} {B : Nat} {x : Wd} (h : WdOk w B x) : Calls Try.prog 32 #[x.v] w fun e w' => e = .returned (.int .i64 (wcheckF x.p)) ∧ Below w.heap.size w w' := by
  obtain ⟨R, hR⟩ : ∃ R, R = wcheckF x.p := ⟨_, rfl⟩
  rw [← hR]
  obtain ⟨kA, kn, kc, ks, gA, gn, gc, gens, iA, im, ic, its⟩ := x
  obtain ⟨hk, hg, hi⟩ := h
  dsimp only at hk hg hi
  show Calls Try.prog 32 #[.agg #[.slice kA kn kc, .slice gA gn gc, .slice iA im ic]] w _
  have hgc := hg.cap
  have hgc2 := hg.cap2
  have hic := hi.cap
  have hic2 := hi.cap2
  have hb1 := (Below.refl w.heap.size w).alloc (Nat.le_refl _) (.cells #[.slice kA kn kc, .slice gA gn gc, .slice iA im ic] 52)
  have hk1 := Bk.new w 52 #[.slice kA kn kc, .slice gA gn gc, .slice iA im ic]
  have h1 := hk.below (hb1.mono hk.lo)
  have hck := check_any kA kn kc B ks _ h1.rd h1.len h1.cap h1.cap2 h1.ok h1.lo
  obtain ⟨cv, hcv⟩ : ∃ cv, cv = checkF (ks.map Kd.p) := ⟨_, rfl⟩
  rw [← hcv] at hck
  have HCV := Lib.hid hcv
  have HR := Lib.hid hR
  have HK := Lib.hid hk
  have HG := Lib.hid hg
  have HI := Lib.hid hi
  have HB1 := Lib.hid hb1
  have HK1 := Lib.hid hk1
  have HCK := Lib.hid hck
  clear hR hk hg hi hb1 hk1 h1 hck hcv
  go_enter Try.func32, Try.ntmps32
  go_wp2_with fail
  (with_reducible refine HCK.out.mono ?_)
  rintro e w2 ⟨rfl, hb2⟩
  have hk2 := HK1.out.below hb2 HK1.out.lt
  have HB2 := Lib.hid (HB1.out.trans (hb2.mono HB1.out.size))
  have c0 : w2.cell? ⟨w.heap.size, 0, none⟩ = some (.slice kA kn kc) := hk2.cell 0
  have c1 : w2.cell? ⟨w.heap.size, 1, none⟩ = some (.slice gA gn gc) := hk2.cell 1
  have c2 : w2.cell? ⟨w.heap.size, 2, none⟩ = some (.slice iA im ic) := hk2.cell 2
  have HK2 := Lib.hid hk2
  clear hk2 hb2 HB1 HK1 HCK
  have hB := HK.out.lo
  by_cases hc0 : cv = 0
  · subst hc0
    by_cases hg256 : 256 < gn
    · have hz : (256 : Int) < gn := by omega
      have hRR : R = 2 := by
        rw [HR.out]
        exact wcheckF_big HCV.out.symm (.inl (by show 256 < gens.length; have := HG.out.len; omega))
      subst hRR
      go_wp2_with fail
      go_ret
      exact ⟨rfl, HB2.out⟩
    · have hz : ¬ (256 : Int) < gn := by omega
      by_cases hgi : gn < im
      · have hz2 : (gn : Int) < im := by omega
        have hRR : R = 2 := by
          rw [HR.out]
          exact wcheckF_big HCV.out.symm (.inr (by show gens.length < (its.map It.p).length; have := HG.out.len; have := HI.out.len; rw [List.length_map]; omega))
        subst hRR
        go_wp2_with fail
        go_ret
        exact ⟨rfl, HB2.out⟩
      · have hz2 : ¬ (gn : Int) < im := by omega
        have HNB : Hid (¬ (256 < gens.length ∨ gens.length < (its.map It.p).length)) := Lib.hid (by have := HG.out.len; have := HI.out.len; rw [List.length_map]; omega)
        go_wp2_with fail
        go_loopw [31] (fun iv wr => ∃ k : Nat, k ≤ gn ∧ iv = .int .i64 k ∧ Hid (∀ g ∈ gens.take k, genOk g = true) ∧ w2 = wr) (fun iv _ => gn - (intOf iv).toNat)
        case atStart => exact ⟨0, Nat.zero_le _, rfl, Lib.hid (fun g hg => by simp at hg), rfl⟩
        case round =>
          obtain ⟨k, hk, rfl, HA, rfl⟩ := hrel
          by_cases hlt : k < gn
          · obtain ⟨g, hg⟩ : ∃ g, gens[k]? = some g := ⟨_, List.getElem?_eq_getElem (by have := HG.out.len; omega)⟩
            obtain ⟨b, o, rfl, hbb, q0⟩ := ((HG.out.rd).below (HB2.out.mono HG.out.lo)).at1 hlt (u := .int .i64 g) (by rw [List.getElem?_map, hg]; rfl)
            have HGK := Lib.hid hg
            have hkz : (k : Int) < gn := by omega
            clear hg
            by_cases h0 : g < 0
            · have hRR : R = 3 := by
                rw [HR.out]
                exact wcheckF_gen HCV.out.symm HNB.out (List.mem_of_getElem? HGK.out) (by unfold genOk; rw [decide_eq_false (show ¬ 0 ≤ g by omega)]; rfl)
              subst hRR
              go_wp2_with fail
              go_ret
              exact ⟨rfl, HB2.out⟩
            · by_cases hM : 1073741824 < g
              · have hRR : R = 3 := by
                  rw [HR.out]
                  exact wcheckF_gen HCV.out.symm HNB.out (List.mem_of_getElem? HGK.out) (by unfold genOk; rw [decide_eq_false (show ¬ g ≤ 1073741824 by omega)]; simp)
                subst hRR
                go_wp2_with fail
                go_ret
                exact ⟨rfl, HB2.out⟩
              · go_wp2_with fail
                go_roundw
                case measure => simp [intOf]; omega
                case rel => exact ⟨k + 1, by omega, by go_num, Lib.hid (fun y hy => by
                  rw [List.take_add_one, HGK.out] at hy
                  rcases List.mem_append.1 hy with hy | hy
                  · exact HA.out y hy
                  · have e : y = g := by simpa using hy
                    rw [e]; unfold genOk; rw [decide_eq_true (show 0 ≤ g by omega), decide_eq_true (show g ≤ 1073741824 by omega)]; rfl), trivial⟩
          · obtain rfl : gn = k := by omega
            have HRI : Hid (R = if itChk (ks.map Kd.p) gens (-1) ((its.drop 0).map It.p) = true then 0 else 3) := Lib.hid (by
              have hA := HA.out
              rw [List.take_of_length_le (by rw [← HG.out.len]; omega)] at hA
              rw [HR.out, List.drop_zero]
              exact wcheckF_its HCV.out.symm HNB.out hA)
            clear HA HR
            go_wp2_with fail
            go_loopw [6, 45] (fun lv iv wr => ∃ (i : Nat) (lst : Int), i ≤ im ∧ iv = .int .i64 i ∧ lv = .int .i64 lst ∧ -1 ≤ lst ∧ Hid (R = if itChk (ks.map Kd.p) gens lst ((its.drop i).map It.p) = true then 0 else 3) ∧ Hid (Below w2.heap.size w2 wr)) (fun _ iv _ => im - (intOf iv).toNat)
            case atStart => exact ⟨0, -1, Nat.zero_le _, rfl, rfl, by omega, HRI, Lib.hid (Below.refl _ _)⟩
            case round =>
              clear HRI c0 c1 c2
              obtain ⟨i, lst, hi, rfl, rfl, hl1, HRI, HW⟩ := hrel
              by_cases hil : i < im
              · obtain ⟨x, hx⟩ : ∃ x, its[i]? = some x := ⟨_, List.getElem?_eq_getElem (by have := HI.out.len; omega)⟩
                have hrr := HRI.out
                rw [List.drop_eq_getElem_cons (by have := HI.out.len; omega), (List.getElem?_eq_some_iff.1 hx).2, List.map_cons] at hrr
                have hrr2 : R = if (itOne (ks.map Kd.p) gens lst x.p && itChk (ks.map Kd.p) gens x.e ((its.drop (i + 1)).map It.p)) = true then 0 else 3 := hrr
                have hbw : Below B w wr := (HB2.out.mono hB).trans (HW.out.mono (Nat.le_trans hB HB2.out.size))
                obtain ⟨b, o, rfl, hbb, q0, q1, q2⟩ := (HI.out.below hbw).rd.it hil hx
                have hxo := (HI.out.below hbw).ok x (List.mem_of_getElem? hx)
                have hxr := bounds_i64 hxo.wf1
                have hiz : (i : Int) < im := by omega
                obtain ⟨xe, hxe⟩ : ∃ v, v = x.e := ⟨_, rfl⟩
                obtain ⟨xg, hxg⟩ : ∃ v, v = x.g := ⟨_, rfl⟩
                obtain ⟨xA, hxA⟩ : ∃ v, v = x.A := ⟨_, rfl⟩
                obtain ⟨xn, hxn⟩ : ∃ v, v = x.n := ⟨_, rfl⟩
                obtain ⟨xc, hxc⟩ : ∃ v, v = x.c := ⟨_, rfl⟩
                rw [← hxe] at q0 hxr hrr2
                rw [← hxg] at q1
                rw [← hxA, ← hxn, ← hxc] at q2
                have hcso := hxo.cs
                rw [← hxA, ← hxn, ← hxc] at hcso
                have HP : Hid (x.p = ((xe, xg), x.cms.map Cm.p)) := Lib.hid (by rw [hxe, hxg]; rfl)
                have HCS := Lib.hid hcso
                have HRR := Lib.hid hrr2
                have HKW := Lib.hid (HK.out.below hbw)
                have HGW := Lib.hid (HG.out.below hbw)
                have hb1 := (Below.refl wr.heap.size wr).alloc (Nat.le_refl _) (.cells #[.int .i64 xe, .int .i64 xg, .slice xA xn xc] 147)
                have hh1 := Bk.new wr 147 #[.int .i64 xe, .int .i64 xg, .slice xA xn xc]
                have hkd : Bk (wr.alloc (.cells #[.int .i64 xe, .int .i64 xg, .slice xA xn xc] 147)) w.heap.size 52 #[.slice kA kn kc, .slice gA gn gc, .slice (some ⟨b, o, none⟩) im ic] := (HK2.out.below HW.out HK2.out.lt).alloc _
                have HB1w := Lib.hid (HB2.out.trans ((HW.out.trans (hb1.mono HW.out.size)).mono HB2.out.size))
                have HBB := Lib.hid (hb1.mono (Nat.le_trans hB hbw.size))
                have HW1 := Lib.hid (HW.out.trans (hb1.mono HW.out.size))
                have HH1 := Lib.hid hh1
                have HKD := Lib.hid hkd
                have hBr := hbw.size
                clear hx hrr hrr2 hxo hcso hxe hxg hxA hxn hxc hb1 hh1 hkd hbw HRI
                by_cases hA : xe ≤ lst
                · have hRf : R = 3 := by
                    rw [HRR.out, HP.out]; unfold itOne
                    rw [decide_eq_false (show ¬ lst < xe by omega), Bool.false_and, Bool.false_and]; rfl
                  subst hRf
                  have t0 : decide (xe ≤ lst) = true := decide_eq_true hA
                  go_wp2_with fail
                  generalize wr.alloc (.cells #[.int .i64 xe, .int .i64 xg, .slice xA xn xc] 147) = W1 at *
                  generalize wr.heap.size = hh at *
                  have e0 : W1.cell? ⟨hh, 0, none⟩ = some (.int .i64 xe) := HH1.out.cell 0
                  go_quiet (fail)
                  have HWn := Lib.hid (below_dn HB1w.out nq)
                  go_wp2_with fail
                  go_ret
                  exact ⟨rfl, HWn.out⟩
                · obtain ⟨N, rfl⟩ : ∃ N : Nat, xe = N := ⟨xe.toNat, by omega⟩
                  have t0 : decide ((N : Int) ≤ lst) = false := decide_eq_false hA
                  by_cases hBn : gn ≤ N
                  · have hRf : R = 3 := by
                      rw [HRR.out, HP.out]; unfold itOne
                      rw [Int.toNat_natCast, List.getElem?_eq_none (by rw [← HG.out.len]; exact hBn)]
                      simp
                    subst hRf
                    have t1 : decide ((gn : Int) ≤ N) = true := decide_eq_true (by omega)
                    have t1' : decide (gn ≤ N) = true := decide_eq_true hBn
                    go_wp2_with fail
                    generalize wr.alloc (.cells #[.int .i64 (N : Int), .int .i64 xg, .slice xA xn xc] 147) = W1 at *
                    generalize wr.heap.size = hh at *
                    have e0 : W1.cell? ⟨hh, 0, none⟩ = some (.int .i64 N) := HH1.out.cell 0
                    have e1 : W1.cell? ⟨w.heap.size, 1, none⟩ = some (.slice gA gn gc) := HKD.out.cell 1
                    go_quiet (fail)
                    have HWn := Lib.hid (below_dn HB1w.out nq)
                    go_wp2_with fail
                    go_ret
                    exact ⟨rfl, HWn.out⟩
                  · have t1 : decide ((gn : Int) ≤ N) = false := decide_eq_false (by omega)
                    have t1' : decide (gn ≤ N) = false := decide_eq_false hBn
                    have hNz : (N : Int) < gn := by omega
                    obtain ⟨g, hg⟩ : ∃ g, gens[N]? = some g := ⟨_, List.getElem?_eq_getElem (by have := HG.out.len; omega)⟩
                    obtain ⟨gb, go, rfl, hgb, g0⟩ := HGW.out.rd.at1 (k := N) (by omega) (u := .int .i64 g) (by rw [List.getElem?_map, hg]; rfl)
                    have g1 := (HBB.out.cell (p := ⟨gb, go + N, none⟩) hgb).trans g0
                    have hone : itOne (ks.map Kd.p) gens lst x.p = (decide (g = xg) && (decide (xg ≠ 1073741824) && heldF (ks.map Kd.p) (-1) (x.cms.map Cm.p))) := by
                      rw [HP.out]; unfold itOne
                      rw [decide_eq_true (show lst < (N : Int) by omega), Int.toNat_natCast, hg, Bool.true_and]
                      simp
                    have HON := Lib.hid hone
                    clear hone g0 hg
                    by_cases hC : g = xg
                    · subst hC
                      have t2 : (g != g) = false := by simp
                      by_cases hD : g = 1073741824
                      · have hRf : R = 3 := by
                          rw [HRR.out, HON.out]
                          simp [hD]
                        subst hRf
                        have t3 : (g == 1073741824) = true := by simp [hD]
                        clear hD
                        go_wp2_with fail
                        generalize wr.alloc (.cells #[.int .i64 (N : Int), .int .i64 g, .slice xA xn xc] 147) = W1 at *
                        generalize wr.heap.size = hh at *
                        have e0 : W1.cell? ⟨hh, 0, none⟩ = some (.int .i64 N) := HH1.out.cell 0
                        have e2 : W1.cell? ⟨hh, 1, none⟩ = some (.int .i64 g) := HH1.out.cell 1
                        have e1 : W1.cell? ⟨w.heap.size, 1, none⟩ = some (.slice (some ⟨gb, go, none⟩) gn gc) := HKD.out.cell 1
                        go_quiet (fail)
                        have HWn := Lib.hid (below_dn HB1w.out nq)
                        go_wp2_with fail
                        go_ret
                        exact ⟨rfl, HWn.out⟩
                      · have t3 : (g == 1073741824) = false := by simp [hD]
                        obtain ⟨hv, hhv⟩ : ∃ hv, hv = heldF (ks.map Kd.p) (-1) (x.cms.map Cm.p) := ⟨_, rfl⟩
                        have HRX : Hid (R = if (hv && itChk (ks.map Kd.p) gens N ((its.drop (i + 1)).map It.p)) = true then 0 else 3) := Lib.hid (by
                          rw [HRR.out, HON.out, ← hhv, decide_eq_true rfl, decide_eq_true hD, Bool.true_and, Bool.true_and])
                        have hho := fun wx (hbx : Below B wr wx) => held_any (HKW.out.below hbx) (HCS.out.below hbx)
                        rw [← hhv] at hho
                        have HHO := Lib.hid hho
                        clear hho hhv hD HRR HON HP HCS HGW HKW
                        go_wp2_with fail
                        generalize wr.alloc (.cells #[.int .i64 (N : Int), .int .i64 g, .slice xA xn xc] 147) = W1 at *
                        generalize wr.heap.size = hh at *
                        have e0 : W1.cell? ⟨hh, 0, none⟩ = some (.int .i64 N) := HH1.out.cell 0
                        have e2 : W1.cell? ⟨hh, 1, none⟩ = some (.int .i64 g) := HH1.out.cell 1
                        have e3 : W1.cell? ⟨hh, 2, none⟩ = some (.slice xA xn xc) := HH1.out.cell 2
                        have e4 : W1.cell? ⟨w.heap.size, 0, none⟩ = some (.slice kA kn kc) := HKD.out.cell 0
                        have e1 : W1.cell? ⟨w.heap.size, 1, none⟩ = some (.slice (some ⟨gb, go, none⟩) gn gc) := HKD.out.cell 1
                        go_still_tail 38, (by kernel_rfl)
                        change wpList _ _ _ _ _ W1.drew
                        have HHD : Hid (Bk W1.drew hh 147 #[.int .i64 (N : Int), .int .i64 g, .slice xA xn xc]) := Lib.hid HH1.out.drew
                        have HBD : Hid (Below w.heap.size w W1.drew) := Lib.hid HB1w.out.drew
                        have HHO2 := Lib.hid (HHO.out _ HBB.out.drew)
                        have HBW2 : Hid (Below w2.heap.size w2 W1.drew) := Lib.hid HW1.out.drew
                        clear HHO e0 e1 e2 e3 e4 g1 HH1 HB1w HBB HKD
                        generalize W1.drew = W2 at *
                        go_wp2_with fail
                        (with_reducible refine HHO2.out.mono ?_)
                        rintro e w3 ⟨rfl, hb3⟩
                        have hh3 := HHD.out.below hb3 HHD.out.lt
                        have e0 : w3.cell? ⟨hh, 0, none⟩ = some (.int .i64 N) := hh3.cell 0
                        have HB3 := Lib.hid (HBD.out.trans (hb3.mono HBD.out.size))
                        have HB3w := Lib.hid (HBW2.out.trans (hb3.mono HBW2.out.size))
                        clear hb3 hh3
                        cases hv
                        · have hRf : R = 3 := by rw [HRX.out]; rfl
                          subst hRf
                          go_wp2_with fail
                          go_ret
                          exact ⟨rfl, HB3.out⟩
                        · have HRN : Hid (R = if itChk (ks.map Kd.p) gens N ((its.drop (i + 1)).map It.p) = true then 0 else 3) := Lib.hid (by rw [HRX.out]; rfl)
                          go_wp2_with fail
                          go_roundw
                          case measure => simp [intOf]; omega
                          case rel => exact ⟨i + 1, N, by omega, by go_num, rfl, by omega, HRN, HB3w⟩
                    · have hRf : R = 3 := by
                        rw [HRR.out, HON.out, decide_eq_false hC]; rfl
                      subst hRf
                      have t2 : (xg != g) = true := by simp; omega
                      go_wp2_with fail
                      generalize wr.alloc (.cells #[.int .i64 (N : Int), .int .i64 xg, .slice xA xn xc] 147) = W1 at *
                      generalize wr.heap.size = hh at *
                      have e0 : W1.cell? ⟨hh, 0, none⟩ = some (.int .i64 N) := HH1.out.cell 0
                      have e2 : W1.cell? ⟨hh, 1, none⟩ = some (.int .i64 xg) := HH1.out.cell 1
                      have e1 : W1.cell? ⟨w.heap.size, 1, none⟩ = some (.slice (some ⟨gb, go, none⟩) gn gc) := HKD.out.cell 1
                      go_quiet (fail)
                      have HWn := Lib.hid (below_dn HB1w.out nq)
                      go_wp2_with fail
                      go_ret
                      exact ⟨rfl, HWn.out⟩
              · obtain rfl : i = im := by omega
                have hR2 := HRI.out
                rw [List.drop_of_length_le (by rw [← HI.out.len]; omega)] at hR2
                have hR3 : R = 0 := by rw [hR2]; rfl
                subst hR3
                have HWf := Lib.hid (HB2.out.trans (HW.out.mono HB2.out.size))
                go_wp2_with fail
                go_ret
                exact ⟨rfl, HWf.out⟩
  · have hRR : R = cv := by rw [HR.out, wcheckF_ks (show checkF (ks.map Kd.p) ≠ 0 from fun e => hc0 (by rw [HCV.out]; exact e)), HCV.out]; rfl
    subst hRR
    have hcb : (R != 0) = true := by simp [hc0]
    go_wp2_with fail
    go_ret
    exact ⟨rfl, HB2.out⟩
/-! ### Kj -/
def namedF (ks : List (ByteArray × List Fd)) (nm : ByteArray) (ns : List ByteArray) : Int × Bool :=
  if findF (ks.map (·.1)) nm < 0 then (-1, true) else
  match ks[(findF (ks.map (·.1)) nm).toNat]? with
  | some k => (findF (ks.map (·.1)) nm, decide (k.2.map Fd.nm = ns))
  | none => (-1, true)
theorem T.info9 : (Try.prog.info? 9).map (fun i => (i.zero, i.size, i.bytes)) = some (some (.string ByteArray.empty), 1, 16) := by kernel_rfl
theorem Bk.new2 (w : World) (o : Obj) (t : TypeId) (cs : Array Value) : Bk ((w.alloc o).alloc (.cells cs t)) (w.heap.size + 1) t cs := by simpa using Bk.new (w.alloc o) t cs
/-! ### Kl -/
def sp0 : ByteArray × List ByteArray := (⟨#[112, 108, 97, 99, 101]⟩, [⟨#[120]⟩, ⟨#[121]⟩, ⟨#[97, 110, 103]⟩])
def sp1 : ByteArray × List ByteArray := (⟨#[109, 111, 116, 105, 111, 110]⟩, [⟨#[118, 120]⟩, ⟨#[118, 121]⟩, ⟨#[115, 112, 105, 110]⟩, ⟨#[99, 97, 108, 109]⟩])
def sp2 : ByteArray × List ByteArray := (⟨#[115, 104, 97, 112, 101]⟩, [⟨#[119]⟩, ⟨#[104]⟩, ⟨#[109, 97, 115, 115]⟩, ⟨#[98, 111, 117, 110, 99, 101]⟩, ⟨#[114, 117, 98]⟩])
/-- The state between two calls: the kinds, and the two arrays of the call's own. -/
structure SpSt (w v : World) (B : Nat) (A : Option Addr) (n c : Nat) (ks : List Kd) (x y : Array Value) : Prop where
  ks : KsOk v B A n c ks
  bx : Bk v w.heap.size 141 x
  ly : Bk v (w.heap.size + 1) 142 y
  bl : Below w.heap.size w v
  lo : B ≤ w.heap.size
theorem SpSt.next {w v v' : World} {B n c : Nat} {A : Option Addr} {ks : List Kd} {x y : Array Value} (h : SpSt w v B A n c ks x y) (hb : Below v.heap.size v v') : SpSt w v' B A n c ks x y :=
  ⟨h.ks.below (hb.mono h.ks.lo), h.bx.below hb h.bx.lt, h.ly.below hb h.ly.lt, h.bl.trans (hb.mono h.bl.size), h.lo⟩
theorem SpSt.put {w v : World} {B n c : Nat} {A : Option Addr} {ks : List Kd} {x y : Array Value} (h : SpSt w v B A n c ks x y) (i : Nat) (a b : Value) :
    SpSt w ((v.setCell ⟨w.heap.size, i, none⟩ a).setCell ⟨w.heap.size + 1, i, none⟩ b) B A n c ks (x.setIfInBounds i a) (y.setIfInBounds i b) := by
  have hb : Below w.heap.size v ((v.setCell ⟨w.heap.size, i, none⟩ a).setCell ⟨w.heap.size + 1, i, none⟩ b) :=
    ((Below.refl w.heap.size v).setCell (p := ⟨w.heap.size, i, none⟩) (Nat.le_refl _) _).setCell (p := ⟨w.heap.size + 1, i, none⟩) (Nat.le_succ _) _
  exact ⟨h.ks.below (hb.mono h.lo), (h.bx.set_ i a).far (by show w.heap.size ≠ w.heap.size + 1; omega) _, (h.ly.far (by show w.heap.size + 1 ≠ w.heap.size; omega) _).set_ i b, h.bl.trans hb, h.lo⟩
theorem SpSt.start {w : World} {B n c : Nat} {A : Option Addr} {ks : List Kd} (h : KsOk w B A n c ks) (x y : Array Value) : SpSt w ((w.alloc (.cells x 141)).alloc (.cells y 142)) B A n c ks x y := by
  have hb := ((Below.refl w.heap.size w).alloc (Nat.le_refl _) (.cells x 141)).alloc (by simp) (.cells y 142)
  exact ⟨h.below (hb.mono h.lo), (Bk.new w 141 x).alloc _, Bk.new2 w _ 142 y, hb, h.lo⟩
def spec (ks : List (ByteArray × List Fd)) (s : ByteArray × List ByteArray) : Int × Bool := namedF ks s.1 s.2
/-! ### Km -/
def mapF (ks : List (ByteArray × List Fd)) : (Int × Int × Int) × Int :=
  if checkF ks ≠ 0 then ((0, 0, 0), checkF ks) else
  if (spec ks sp0).2 && (spec ks sp1).2 && (spec ks sp2).2 then (((spec ks sp0).1, (spec ks sp1).1, (spec ks sp2).1), 0) else ((0, 0, 0), 8)
/-! ### Kn -/
theorem bfind_named (ks : List (ByteArray × List Fd)) (nm : ByteArray) (ns : List ByteArray) :
    ((bfindF ks nm ns).2 = if (namedF ks nm ns).2 then 0 else 8) ∧ ((namedF ks nm ns).2 = true → (bfindF ks nm ns).1 = (namedF ks nm ns).1) := by
  unfold bfindF namedF
  rcases findF_range (ks.map (·.1)) nm with h | ⟨i, h, hi⟩
  · simp [h]
  · rw [List.length_map] at hi
    have hni : ¬ ((i : Int) < 0) := by omega
    obtain ⟨k, hk⟩ : ∃ k, ks[i]? = some k := ⟨_, List.getElem?_eq_getElem hi⟩
    simp only [h, if_neg hni, Int.toNat_natCast, hk]
    by_cases he : k.2.map Fd.nm = ns
    · simp [he]
    · simp [he]
theorem of_is_map (ks : List (ByteArray × List Fd)) : ofF ks = mapF ks := by
  have h0 := bfind_named ks sPlace nPlace
  have h1 := bfind_named ks sMotion nMotion
  have h2 := bfind_named ks sShape nShape
  have e0 : spec ks sp0 = namedF ks sPlace nPlace := rfl
  have e1 : spec ks sp1 = namedF ks sMotion nMotion := rfl
  have e2 : spec ks sp2 = namedF ks sShape nShape := rfl
  unfold ofF mapF
  rw [e0, e1, e2]
  generalize bfindF ks sPlace nPlace = p0 at *
  generalize bfindF ks sMotion nMotion = p1 at *
  generalize bfindF ks sShape nShape = p2 at *
  generalize namedF ks sPlace nPlace = n0 at *
  generalize namedF ks sMotion nMotion = n1 at *
  generalize namedF ks sShape nShape = n2 at *
  obtain ⟨a0, b0⟩ := p0
  obtain ⟨a1, b1⟩ := p1
  obtain ⟨a2, b2⟩ := p2
  obtain ⟨c0, d0⟩ := n0
  obtain ⟨c1, d1⟩ := n1
  obtain ⟨c2, d2⟩ := n2
  cases d0 <;> cases d1 <;> cases d2 <;> simp_all
/-! ### Ko -/
theorem oneF_small {nm : ByteArray} {fds : List Fd} (h : oneF nm fds = 0) : fds.length ≤ 8 := by
  unfold oneF at h
  split at h
  · cases h
  · split at h
    · cases h
    · omega
theorem of_says {w : World} {B n c : Nat} {A : Option Addr} {ks : List Kd} (h : KsOk w B A n c ks) : Calls Try.prog 19 #[.slice A n c] w (OfP w (mapF (ks.map Kd.p))) := by
  have := of_any h
  rwa [of_is_map] at this
theorem results_cell_one {fn : Func} {p : Tmp} {ty : TypeId} (h : fn.results = #[.cell p ty]) (tmps : Array Value) (P : Program) (w : World) :
    (results fn tmps).run P w = ((asAddr (tmps.getD p undef)).run P w).andThen fun a w₁ => (loadVar ty a).run P w₁ := by
  simp only [results, h]
  simp [Sem.run_bind, Result.andThen]
set_option maxHeartbeats 800000 in
theorem fieldMk_any (nm : ByteArray) (b l : Int) (w : World) : Calls Try.prog 167 #[.string nm, .int .i64 b, .int .i64 l] w fun e w' => e = .returned (.agg #[.string nm, .int .i64 b, .int .i64 l]) ∧ Below w.heap.size w w' := by
  have hk := Bk.new w 66 #[.string ByteArray.empty, .int .i64 0, .int .i64 0]
  have q0 := hk.cell 0
  have q1 := hk.cell 1
  have q2 := hk.cell 2
  have g0 := hk.frozen 0
  have g1 := hk.frozen 1
  have g2 := hk.frozen 2
  simp only [List.getElem?_toArray, List.getElem?_cons_zero, List.getElem?_cons_succ] at q0 q1 q2
  clear hk
  go_enter Try.func167, Try.ntmps167
  go_wp2_with fail
  (try simp only [Exit.inBlock, Exit.then])
  refine bodyPost_ret (v := .agg #[.string nm, .int .i64 b, .int .i64 l]) ?_ rfl ⟨rfl, ?_⟩
  · rw [results_cell_one rfl]
    go_simp
  · exact (Below.refl _ w).alloc (Nat.le_refl _) _
/-! ### Mn -/
def clC (c : Cl) : List Value := [.int .i64 c.1, .int .i64 c.2.1, .int .i64 c.2.2.1, .int .i64 c.2.2.2]
def clCs (l : List Cl) : List Value := l.flatMap clC
structure MgSt (w : World) (base m : Nat) (l : List Cl) : Prop where
  ex : ∃ A c, Bk w m 198 #[.slice A l.length c] ∧ w.ownsRow base 73 4 (.slice A l.length c) l.length (clCs l)
theorem MgSt.lt {w : World} {base m : Nat} {l : List Cl} (h : MgSt w base m l) : m < w.heap.size := by
  obtain ⟨A, c, h1, _⟩ := h.ex
  exact h1.lt
theorem MgSt.below {w w' : World} {base m : Nat} {l : List Cl} (h : MgSt w base m l) (hb : Below w.heap.size w w') : MgSt w' base m l := by
  obtain ⟨A, c, h1, h2⟩ := h.ex
  exact ⟨A, c, h1.below hb h1.lt, (Kx.of_below (B := 0) (F := []) hb).own h2 (by simp)⟩
theorem MgSt.kx {w w' : World} {B base m : Nat} {l : List Cl} {F : List TypeId} (h : MgSt w base m l) (hq : Kx B F w w') (h1 : (198 : TypeId) ∉ F) (h2 : (73 : TypeId) ∉ F) : MgSt w' base m l := by
  obtain ⟨A, c, h3, h4⟩ := h.ex
  exact ⟨A, c, hq.bk h3 h1, hq.own h4 h2⟩
/-- A list in a block of the call's own. -/
def OutI (w : World) (base : Nat) (A : Option Addr) (n : Nat) (xs : List Int) : Prop :=
  xs.length = n ∧ (0 < n → ∃ g N, A = some ⟨g, 0, none⟩ ∧ base ≤ g ∧ n ≤ N ∧ Fill w g 3 1 N n (xs.map (Value.int .i64)))
theorem OutI.of_own {w : World} {base n c : Nat} {A : Option Addr} {xs : List Int} (h : w.ownsRow base 3 1 (.slice A n c) n (xs.map (Value.int .i64))) : OutI w base A n xs := by
  refine ⟨by have := h.1; simpa using this, fun hn => ?_⟩
  rcases h.2 with ⟨_, h0⟩ | ⟨g, cap, cur, hv, hb, hh, h1, _, hs, ht⟩
  · omega
  · injection hv with hA _ _
    exact ⟨g, cap, hA, hb, h1, ⟨cur, hh, hs, ht⟩⟩
theorem OutI.keep {w w' : World} {B base n : Nat} {A : Option Addr} {xs : List Int} {F : List TypeId} (h : OutI w base A n xs) (hq : Kx B F w w') (h3 : (3 : TypeId) ∉ F) : OutI w' base A n xs :=
  ⟨h.1, fun hn => by
    obtain ⟨g, N, h1, h2, h4, h5⟩ := h.2 hn
    exact ⟨g, N, h1, h2, h4, h5.keep hq h3⟩⟩
theorem OutI.rd {w : World} {B base n : Nat} {A : Option Addr} {xs : List Int} (h : OutI w base A n xs) : RdY w B 3 1 A n (xs.map (Value.int .i64)) := by
  refine ⟨by simp [h.1], fun hn => ?_⟩
  obtain ⟨g, N, h1, _, _, cs, h3, h4, h5⟩ := h.2 hn
  refine ⟨g, 0, h1, h3.lt, .inr ⟨cs, h3⟩, fun j u hu => (h3.cell _).trans ?_⟩
  rw [← h5, List.getElem?_take] at hu
  split at hu
  · rw [Nat.zero_add]; simpa using hu
  · cases hu
theorem OutI.set {w : World} {base n g N k : Nat} {xs : List Int} (h1 : xs.length = n) (hb : base ≤ g) (hn : n ≤ N) (hf : Fill w g 3 1 N n (xs.map (Value.int .i64))) (_hk : k < n) (v : Int) : OutI (w.setCell ⟨g, k, none⟩ (.int .i64 v)) base (some ⟨g, 0, none⟩) n (xs.set k v) := by
  refine ⟨by simp [h1], fun _ => ⟨g, N, rfl, hb, hn, ?_⟩⟩
  obtain ⟨cs, h3, h4, h5⟩ := hf
  refine ⟨_, h3.set_ k (.int .i64 v), by simp [h4], ?_⟩
  rw [Array.toList_setIfInBounds, List.take_set, h5, List.map_set]
/-! ### Mo -/
theorem own_far {w : World} {base size n g : Nat} {e t : TypeId} {v : Value} {xs : List Value} {cs : Array Value} (h : w.ownsRow base e size v n xs) (hg : Bk w g t cs) (hne : e ≠ t) (i : Nat) (u : Value) :
    (w.setCell ⟨g, i, none⟩ u).ownsRow base e size v n xs :=
  (Kx.set (B := 0) (F := [t]) Kx.refl hg (Nat.zero_le _) (by simp) i u).own h (by simp [hne])
/-- The values of components lie below B, or in blocks from h on. -/
def Fr (h B : Nat) (l : List Cm) : Prop := ∀ z ∈ l, 0 < z.n → ∀ b o, z.A = some ⟨b, o, none⟩ → b < B ∨ h ≤ b
theorem Fr.mono {h h' B : Nat} {l : List Cm} (H : Fr h B l) (hh : h' ≤ h) : Fr h' B l := fun z hz hn b o hA => (H z hz hn b o hA).imp id fun h2 => Nat.le_trans hh h2
/-- The frame of merger.comps. -/
structure CI (h : Nat) (wr : World) (B : Nat) (o x y : It) (A : Option Addr) (n c : Nat) (l1 : List Cm) : Prop where
  b0 : Bk wr h 147 #[.int .i64 o.e, .int .i64 o.g, .slice o.A o.n o.c]
  b1 : Bk wr (h + 1) 147 #[.int .i64 x.e, .int .i64 x.g, .slice x.A x.n x.c]
  b2 : Bk wr (h + 2) 147 #[.int .i64 y.e, .int .i64 y.g, .slice y.A y.n y.c]
  b3 : Bk wr (h + 3) 147 #[.int .i64 0, .int .i64 0, .slice none 0 0]
  b4 : Bk wr (h + 4) 147 #[.int .i64 x.e, .int .i64 x.g, .slice A n c]
  own : wr.ownsRow h 166 2 (.slice A n c) n (cmCs l1)
  len : n = l1.length
  ok : ∀ z ∈ l1, CmY wr B z
  fr : Fr h B l1
theorem CI.kx {h : Nat} {wr w' : World} {B B' : Nat} {o x y : It} {A : Option Addr} {n c : Nat} {l1 : List Cm} {F : List TypeId} (H : CI h wr B o x y A n c l1) (hq : Kx B' F wr w') (hB : B ≤ B') (h147 : (147 : TypeId) ∉ F) (h166 : (166 : TypeId) ∉ F) (h3 : (3 : TypeId) ∉ F) : CI h w' B o x y A n c l1 :=
  ⟨hq.bk H.b0 h147, hq.bk H.b1 h147, hq.bk H.b2 h147, hq.bk H.b3 h147, hq.bk H.b4 h147, hq.own H.own h166, H.len, fun z hz => (H.ok z hz).keep (hq.mono hB (fun _ h => h)) h3, H.fr⟩
theorem CI.below {h : Nat} {wr w' : World} {B : Nat} {o x y : It} {A : Option Addr} {n c : Nat} {l1 : List Cm} (H : CI h wr B o x y A n c l1) (hb : Below wr.heap.size wr w') : CI h w' B o x y A n c l1 := H.kx (F := []) (Kx.of_below (B := B) hb) (Nat.le_refl _) (by simp) (by simp) (by simp)
theorem wf_i64 {n : Int} (h1 : -9223372036854775808 ≤ n) (h2 : n ≤ 9223372036854775807) : (Lit.int .i64 n).wf = true := by
  simp [Lit.wf, IntKind.min, IntKind.max, IntKind.signed, IntKind.bits]
  omega
/-! ### Mh -/
theorem genX_name (i : Nat) : nameF (genX i) = true := by unfold genX; split <;> (try split) <;> decide
theorem genN_name (i : Nat) : nameF (genN i) = true := by unfold genN; split <;> (try split) <;> (try split) <;> decide
theorem ba_ne {a b : ByteArray} (h : a.data.toList ≠ b.data.toList) : a ≠ b := fun e => h (by rw [e])
theorem genX_ne {i j : Nat} (hi : i < j) (hj : j < 3) : genX i ≠ genX j := by
  have : i = 0 ∨ i = 1 := by omega
  have : j = 1 ∨ j = 2 := by omega
  rcases ‹i = 0 ∨ i = 1› with rfl | rfl <;> rcases ‹j = 1 ∨ j = 2› with rfl | rfl <;> (first | omega | (apply ba_ne; decide))
theorem GenF.field {f : Fd} {i : Nat} (h : GenF f) (hn : f.nm = genX i) : fieldF f = 0 := by
  unfold fieldF
  have := h.b
  rw [if_pos ⟨by rw [hn]; exact genX_name i, by omega, by omega, by omega, by omega⟩]
theorem GenFs.scan {l : List Fd} (h : GenFs l) (hl : l.length ≤ 3) : scanF [] l = 0 := by
  suffices ∀ (r seen : List Fd), seen ++ r = l → scanF seen r = 0 from this l [] rfl
  intro r
  induction r with
  | nil => intro seen _; rfl
  | cons f r ih =>
    intro seen he
    rw [scanF_at]
    have hf := h.g seen.length f (by rw [← he]; simp)
    rw [if_neg (by rw [hf.2.field hf.1]; simp), if_neg]
    · exact ih _ (by rw [← he]; simp)
    · intro ha
      rw [List.any_eq_true] at ha
      obtain ⟨o, ho, h2⟩ := ha
      have h2 : o.nm = f.nm := by simpa using h2
      obtain ⟨i, hi⟩ := List.mem_iff_getElem?.1 ho
      have hil := (List.getElem?_eq_some_iff.1 hi).1
      have hg := h.g i o (by rw [← he, List.getElem?_append_left hil]; exact hi)
      rw [hg.1, hf.1] at h2
      exact genX_ne hil (by have := congrArg List.length he; simp at this; omega) h2
theorem GenKs.one {l : List Kp2} (h : GenKs l) {i : Nat} {k : Kp2} (hk : l[i]? = some k) : oneF k.1 k.2 = 0 := by
  obtain ⟨h1, h2, h3, h4⟩ := h.g i k hk
  unfold oneF
  rw [if_neg (by rw [h1, genN_name]; simp), if_neg (by omega)]
  exact h4.scan h3
/-- A field of a valid kind. -/
theorem scan_ok {r : List Fd} : ∀ {seen : List Fd}, scanF seen r = 0 → ∀ f ∈ r, fieldF f = 0 := by
  induction r with
  | nil => intro _ _ f hf; cases hf
  | cons a r ih =>
    intro seen h f hf
    rw [scanF_at] at h
    by_cases h0 : fieldF a ≠ 0
    · rw [if_pos h0] at h; exact absurd h h0
    · rw [if_neg h0] at h
      split at h
      · cases h
      · rcases List.mem_cons.1 hf with rfl | hf
        · omega
        · exact ih h f hf
theorem one_ok {nm : ByteArray} {fds : List Fd} (h : oneF nm fds = 0) {f : Fd} (hf : f ∈ fds) : fieldF f = 0 := by
  unfold oneF at h
  split at h
  · cases h
  · split at h
    · cases h
    · exact scan_ok h f hf
theorem near_in {f : Fd} (h : fieldF f = 0) {v : Int} (h1 : f.low ≤ v) (h2 : v < f.low + 2 ^ f.bits.toNat) : nearF f v = v := by
  unfold nearF highF
  rw [if_pos h, if_pos h]
  omega
/-- Values that have been drawn so far. -/
theorem hold_of {d : Kp2} {v : List Int} (h : oneF d.1 d.2 = 0) (hl : v.length = d.2.length) (hv : ∀ i f, d.2[i]? = some f → f.low ≤ v.getD i 0 ∧ v.getD i 0 < f.low + 2 ^ f.bits.toNat) : holdK d v = true :=
  holdK_iff.2 ⟨h, hl, fun i f hf => near_in (one_ok h (List.mem_of_getElem? hf)) (hv i f hf).1 (hv i f hf).2⟩
end Go.Proofs.Ytnidcmhfbkdioaa
