/-
  The contract of world.held. Conditions: what is read can be read.
-/
import Derived.Test.YtnidcmhfbkdioaaWf
import Derived.StillTailTactics
namespace Go.Proofs.Ytnidcmhfbkdioaa
open Go.RowKit
set_option maxRecDepth 100000

set_option maxHeartbeats 3200000 in
theorem held_any {w : World} {B kn kc n c : Nat} {kA A : Option Addr} {ks : List Kd} {l : List Cm} (hk : KsOk w B kA kn kc ks) (hc : CsOk w B A n c l) :
    Calls Try.prog 107 #[.slice kA kn kc, .slice A n c] w fun e w' => e = .returned (.bool (heldF (ks.map Kd.p) (-1) (l.map Cm.p))) ∧ Below w.heap.size w w' := by
  obtain ⟨R, hR⟩ : ∃ R, R = heldF (ks.map Kd.p) (-1) (l.map Cm.p) := ⟨_, rfl⟩
  rw [← hR]
  have hcap := hk.cap
  have hcap2 := hk.cap2
  have hcc := hc.cap
  have hcc2 := hc.cap2
  have HK := Lib.hid hk
  have HC := Lib.hid hc
  have HR : Hid (R = heldF (ks.map Kd.p) (-1) ((l.drop 0).map Cm.p)) := Lib.hid (by rw [List.drop_zero]; exact hR)
  clear hk hc hR
  go_enter Try.func107, Try.ntmps107
  go_wp2_with fail
  go_loopw [5, 10] (fun lv iv wr => ∃ (i : Nat) (lst : Int), i ≤ n ∧ iv = .int .i64 i ∧ lv = .int .i64 lst ∧ -1 ≤ lst ∧ Hid (R = heldF (ks.map Kd.p) lst ((l.drop i).map Cm.p)) ∧ Hid (Below w.heap.size w wr)) (fun _ iv _ => n - (intOf iv).toNat)
  case atStart => exact ⟨0, -1, Nat.zero_le _, rfl, rfl, by omega, HR, Lib.hid (Below.refl _ _)⟩
  case round =>
    clear HR
    obtain ⟨i, lst, hi, rfl, rfl, hl1, HR, HW⟩ := hrel
    by_cases hlt : i < n
    · obtain ⟨x, hx⟩ : ∃ x, l[i]? = some x := ⟨_, List.getElem?_eq_getElem (by have := HC.out.len; omega)⟩
      have hB := HC.out.lo
      have hrr := HR.out
      rw [List.drop_eq_getElem_cons (by have := HC.out.len; omega), (List.getElem?_eq_some_iff.1 hx).2, List.map_cons] at hrr
      have hrr2 : R = (heldOne (ks.map Kd.p) lst x.p && heldF (ks.map Kd.p) x.k ((l.drop (i + 1)).map Cm.p)) := hrr
      have hcw := HC.out.below (HW.out.mono hB)
      have hkw := HK.out.below (HW.out.mono hB)
      have hxo := hcw.ok x (List.mem_of_getElem? hx)
      have hxr := bounds_i64 hxo.wf
      obtain ⟨b, o, rfl, hbb, q0, q1⟩ := hcw.rd.cm hlt hx
      have hiz : (i : Int) < n := by omega
      obtain ⟨xk, hxk⟩ : ∃ xk, xk = x.k := ⟨_, rfl⟩
      obtain ⟨xA, hxA⟩ : ∃ xA, xA = x.A := ⟨_, rfl⟩
      obtain ⟨xn, hxn⟩ : ∃ xn, xn = x.n := ⟨_, rfl⟩
      obtain ⟨xc, hxc⟩ : ∃ xc, xc = x.c := ⟨_, rfl⟩
      rw [← hxk] at q0 hxr hrr2
      rw [← hxA, ← hxn, ← hxc] at q1
      have HXK := Lib.hid hxk
      have HXO := Lib.hid hxo
      have HRR := Lib.hid hrr2
      have HX3 := Lib.hid (And.intro hxA (And.intro hxn hxc))
      have HKW := Lib.hid hkw
      clear hx hrr hrr2 hcw hxo hxk hxA hxn hxc hkw HR
      have hb1 := (Below.refl wr.heap.size wr).alloc (Nat.le_refl _) (.cells #[.int .i64 xk, .slice xA xn xc] 166)
      have hh1 := Bk.new wr 166 #[.int .i64 xk, .slice xA xn xc]
      have HB1 := Lib.hid hb1
      have HH1 := Lib.hid hh1
      clear hb1 hh1
      have HB1w := Lib.hid (HW.out.trans (HB1.out.mono HW.out.size))
      have hl1' := hcap2
      by_cases h1 : xk ≤ lst
      · have hRf : R = false := by
          rw [HRR.out]; unfold heldOne Cm.p
          rw [← HXK.out, decide_eq_false (show ¬ lst < xk by omega)]; rfl
        subst hRf
        go_wp2_with fail
        generalize wr.alloc (.cells #[.int .i64 xk, .slice xA xn xc] 166) = W1 at *
        generalize wr.heap.size = hh at *
        have c0 : W1.cell? ⟨hh, 0, none⟩ = some (.int .i64 xk) := HH1.out.cell 0
        have c1 : W1.cell? ⟨hh, 1, none⟩ = some (.slice xA xn xc) := HH1.out.cell 1
        go_quiet (fail)
        have HWn := Lib.hid (below_dn HB1w.out nq)
        go_wp2_with fail
        go_ret
        exact ⟨rfl, HWn.out⟩
      · obtain ⟨K, rfl⟩ : ∃ K : Nat, xk = K := ⟨xk.toNat, by omega⟩
        by_cases h2 : kn ≤ K
        · have hRf : R = false := by
            rw [HRR.out]; unfold heldOne Cm.p
            rw [← HXK.out, Int.toNat_natCast, List.getElem?_eq_none (by rw [List.length_map, ← HK.out.len]; exact h2)]
            simp
          subst hRf
          have h2z : (kn : Int) ≤ K := by omega
          have t0 : decide ((K : Int) ≤ lst) = false := decide_eq_false h1
          have t1 : decide ((kn : Int) ≤ K) = true := decide_eq_true h2z
          go_wp2_with fail
          generalize wr.alloc (.cells #[.int .i64 (K : Int), .slice xA xn xc] 166) = W1 at *
          generalize wr.heap.size = hh at *
          have c0 : W1.cell? ⟨hh, 0, none⟩ = some (.int .i64 K) := HH1.out.cell 0
          have c1 : W1.cell? ⟨hh, 1, none⟩ = some (.slice xA xn xc) := HH1.out.cell 1
          go_quiet (fail)
          have HWn := Lib.hid (below_dn HB1w.out nq)
          go_wp2_with fail
          go_ret
          exact ⟨rfl, HWn.out⟩
        · have h2z : (K : Int) < kn := by omega
          have t0 : decide ((K : Int) ≤ lst) = false := decide_eq_false h1
          have t1 : decide ((kn : Int) ≤ K) = false := decide_eq_false (by omega)
          have t1' : decide (kn ≤ K) = false := decide_eq_false h2
          obtain ⟨kd, hkd⟩ : ∃ kd, ks[K]? = some kd := ⟨_, List.getElem?_eq_getElem (by have := HK.out.len; omega)⟩
          have hko := HKW.out.ok kd (List.mem_of_getElem? hkd)
          obtain ⟨kb, ko, rfl, hkb, k0, k1⟩ := HKW.out.rd.kd (by omega) hkd
          have hHo : heldOne (ks.map Kd.p) lst x.p = holdsF kd.nm kd.fds x.vals := by
            unfold heldOne Cm.p
            rw [← HXK.out, decide_eq_true (show lst < (K : Int) by omega), Int.toNat_natCast, List.getElem?_map, hkd]
            rfl
          have hrr := HRR.out
          rw [hHo] at hrr
          have hw1 := HB1.out
          have hBw : B ≤ wr.heap.size := Nat.le_trans hB HW.out.size
          have hB1B : Below B wr (wr.alloc (.cells #[.int .i64 (K : Int), .slice xA xn xc] 166)) := (hw1.mono hBw)
          have hho := fun wx (hbx : Below (wr.heap.size + 1) (wr.alloc (.cells #[.int .i64 (K : Int), .slice xA xn xc] 166)) wx) =>
            holds_any kd.nm kd.A kd.n kd.c kd.fds xA xn xc B x.vals wx (hko.rd.below (hB1B.trans (hbx.mono (by omega)))) hko.len hko.cap hko.cap2
            (by have h := HXO.out.rd.below (hB1B.trans (hbx.mono (by omega))); rw [← HX3.out.1, ← HX3.out.2.1] at h; exact h) (by rw [HX3.out.2.1]; exact HXO.out.len) (by rw [HX3.out.2.1, HX3.out.2.2]; exact HXO.out.cap) (by rw [HX3.out.2.2]; exact HXO.out.cap2) (by have := hbx.size; simp at this; omega)
          have k0' := (hB1B.cell (p := ⟨kb, ko + K * 2, none⟩) hkb).trans k0
          have k1' := (hB1B.cell (p := ⟨kb, ko + K * 2 + 1, none⟩) hkb).trans k1
          obtain ⟨hv, hhv⟩ : ∃ hv, hv = holdsF kd.nm kd.fds x.vals := ⟨_, rfl⟩
          rw [← hhv] at hho hrr
          have HHO := Lib.hid hho
          have HRX := Lib.hid hrr
          generalize kd.nm = dn at *
          generalize kd.A = dA at *
          generalize kd.n = dm at *
          generalize kd.c = dc at *
          clear hho hrr hhv hkd hko hHo k0 k1 hw1 HRR
          go_wp2_with fail
          have hszz : (wr.alloc (.cells #[.int .i64 (K : Int), .slice xA xn xc] 166)).heap.size = wr.heap.size + 1 := by simp
          have HSZ := Lib.hid hszz
          clear hszz
          generalize (wr.alloc (.cells #[.int .i64 (K : Int), .slice xA xn xc] 166)) = W1 at *
          generalize wr.heap.size = hh at *
          have c0 : W1.cell? ⟨hh, 0, none⟩ = some (.int .i64 K) := HH1.out.cell 0
          have c1 : W1.cell? ⟨hh, 1, none⟩ = some (.slice xA xn xc) := HH1.out.cell 1
          have HRT : Hid (R = (hv && heldF (ks.map Kd.p) K ((l.drop (i + 1)).map Cm.p))) := HRX
          clear HRX h2 HW HB1 HXO HX3 HKW
          go_still_tail 19, (by kernel_rfl)
          change wpList _ _ _ _ _ W1.drew
          have HB2 : Hid (Below (hh + 1) W1 W1.drew) := Lib.hid (Below.refl _ _).drew
          have HHD : Hid (Bk W1.drew hh 166 #[.int .i64 (K : Int), .slice xA xn xc]) := Lib.hid HH1.out.drew
          have HBD : Hid (Below w.heap.size w W1.drew) := Lib.hid HB1w.out.drew
          have HHO2 := Lib.hid (HHO.out _ HB2.out)
          clear HHO HB2 c0 c1 k0' k1' HSZ HH1 HB1w hB1B
          generalize W1.drew = W2 at *
          go_wp2_with fail
          (with_reducible refine HHO2.out.mono ?_)
          rintro e w3 ⟨rfl, hb3⟩
          have hh3 := HHD.out.below hb3 HHD.out.lt
          have e0 : w3.cell? ⟨hh, 0, none⟩ = some (.int .i64 K) := hh3.cell 0
          have HB3 := Lib.hid (HBD.out.trans (hb3.mono HBD.out.size))
          clear hb3 hh3
          cases hv
          · have hRf : R = false := by rw [HRT.out]; rfl
            subst hRf
            go_wp2_with fail
            go_ret
            exact ⟨rfl, HB3.out⟩
          · have HRN : Hid (R = heldF (ks.map Kd.p) K ((l.drop (i + 1)).map Cm.p)) := Lib.hid (by rw [HRT.out]; rfl)
            go_wp2_with fail
            go_roundw
            case measure => simp [intOf]; omega
            case rel => exact ⟨i + 1, K, by omega, by go_num, rfl, by omega, HRN, HB3⟩
    · obtain rfl : i = n := by omega
      have hR2 := HR.out
      rw [List.drop_of_length_le (by rw [← HC.out.len]; omega)] at hR2
      have hR3 : R = true := hR2
      subst hR3
      go_wp2_with fail
      go_ret
      exact ⟨rfl, HW.out⟩
end Go.Proofs.Ytnidcmhfbkdioaa
