/-
  The contracts of slices.Equal of fields, and of slices.EqualFunc of kinds as merge.Three calls it. Conditions: what is read can be read.
-/
import Derived.Test.YtnidcmhfbkdioaaMe
namespace Go.Proofs.Ytnidcmhfbkdioaa
open Go.RowKit
set_option maxRecDepth 100000

set_option maxHeartbeats 1600000 in
theorem equalFds_any (A A' : Option Addr) (n c n' c' B : Nat) (l l' : List Fd) (w : World) (hn : n = l.length) (hn' : n' = l'.length) (hm : n ≤ 9223372036854775807) (hr : Rd w B 3 A n (fdCs l)) (hr' : Rd w B 3 A' n' (fdCs l')) :
    Calls Try.prog 35 #[.slice A n c, .slice A' n' c'] w fun e w' => e = .returned (.bool (decide (l = l'))) ∧ ∃ m, w.drewN m = w' := by
  by_cases h0 : n = n'
  · subst h0
    have t0 : ((n : Int) != n) = false := by simp
    have HN := Lib.hid hn
    have HN' := Lib.hid hn'
    have HR := Lib.hid hr
    have HR' := Lib.hid hr'
    clear hn hn' hr hr'
    go_enter Try.func35, Try.ntmps35
    go_wp2_with fail
    go_loopw [13] (fun i wr => ∃ k : Nat, k ≤ n ∧ i = .int .i64 k ∧ Hid (l.take k = l'.take k) ∧ ∃ m, w.drewN m = wr) (fun i _ => n - (intOf i).toNat)
    case atStart => exact ⟨0, Nat.zero_le _, rfl, Lib.hid rfl, 0, rfl⟩
    case round =>
      obtain ⟨k, hk, rfl, HT, m, rfl⟩ := hrel
      by_cases hlt : k < n
      · obtain ⟨f, hf⟩ : ∃ f, l[k]? = some f := ⟨_, List.getElem?_eq_getElem (by have := HN.out; omega)⟩
        obtain ⟨g, hg⟩ : ∃ g, l'[k]? = some g := ⟨_, List.getElem?_eq_getElem (by have := HN'.out; omega)⟩
        obtain ⟨fb, fo, rfl, _, e0, e1, e2⟩ := HR.out.fd hlt hf
        obtain ⟨gb, go, rfl, _, g0, g1, g2⟩ := HR'.out.fd hlt hg
        have hjn : (k : Int) < n := by omega
        have hj0 : (0 : Int) ≤ k := by omega
        have E := eq66 f g
        obtain ⟨d, hd⟩ : ∃ d, d = decide (f = g) := ⟨_, rfl⟩
        rw [← hd] at E
        have HF := Lib.hid hf
        have HG := Lib.hid hg
        have HD := Lib.hid hd
        clear hf hg hd
        generalize f.nm = f1 at *
        generalize f.bits = f2 at *
        generalize f.low = f3 at *
        generalize g.nm = g1' at *
        generalize g.bits = g2' at *
        generalize g.low = g3 at *
        go_wp2_with fail
        go_quiet (fail)
        cases d
        · go_wp2_with fail
          go_ret
          have hne : l ≠ l' := ne_of_at HF.out HG.out (of_decide_eq_false HD.out.symm)
          exact ⟨ret_b (by rw [decide_eq_false hne]), _, (World.drewN_drewN _ _ _).symm⟩
        · go_wp2_with fail
          go_roundw
          case measure => simp [intOf]; omega
          case rel => exact ⟨k + 1, by omega, by go_num, Lib.hid (take_eq_succ HF.out HG.out HT.out (of_decide_eq_true HD.out.symm)), _, rfl⟩
      · obtain rfl : k = n := by omega
        go_wp2_with fail
        go_ret
        have h1 := HT.out
        rw [List.take_of_length_le (by rw [← HN.out]; omega), List.take_of_length_le (by rw [← HN'.out]; omega)] at h1
        exact ⟨ret_b (by simp [h1]), _, rfl⟩
  · have t0 : ((n : Int) != n') = true := by simp; omega
    have HE : Hid (l ≠ l') := Lib.hid (by rintro rfl; omega)
    clear hn hn' hr hr' h0
    go_enter Try.func35, Try.ntmps35
    go_wp2_with fail
    go_ret
    exact ⟨ret_b (by simp [HE.out]), 0, rfl⟩

set_option maxHeartbeats 800000 in
theorem clo104_any {wx : World} {B B' : Nat} (x y : Kd) (hx : KdOk wx B x) (hy : KdOk wx B' y) (hB : B ≤ wx.heap.size) (hB' : B' ≤ wx.heap.size) :
    Calls Try.prog 104 #[.agg #[.string x.nm, .slice x.A x.n x.c], .agg #[.string y.nm, .slice y.A y.n y.c]] wx fun e w' => e = .returned (.bool (decide (x.p = y.p))) ∧ Below wx.heap.size wx w' := by
  obtain ⟨xk, xA, xn, xc, xv⟩ := x
  obtain ⟨yk, yA, yn, yc, yv⟩ := y
  show Calls Try.prog 104 #[.agg #[.string xk, .slice xA xn xc], .agg #[.string yk, .slice yA yn yc]] wx _
  have hb1 : Below wx.heap.size wx ((wx.alloc (.cells #[.string xk, .slice xA xn xc] 63)).alloc (.cells #[.string yk, .slice yA yn yc] 63)) := ((Below.refl _ _).alloc (Nat.le_refl _) _).alloc (by simp) _
  have heq := equalFds_any xA yA xn xc yn yc (max B B') xv yv ((wx.alloc (.cells #[.string xk, .slice xA xn xc] 63)).alloc (.cells #[.string yk, .slice yA yn yc] 63)) hx.len hy.len (by have := hx.cap; have := hx.cap2; dsimp only at *; omega) ((hx.rd.below (hb1.mono hB)).more (by omega)) ((hy.rd.below (hb1.mono hB')).more (by omega))
  have HEQ := Lib.hid heq
  have HB1 := Lib.hid hb1
  clear hx hy hb1 heq
  by_cases hk : xk = yk
  · subst hk
    have hd : decide ((⟨xk, xA, xn, xc, xv⟩ : Kd).p = (⟨xk, yA, yn, yc, yv⟩ : Kd).p) = decide (xv = yv) := by
      rw [decide_eq_decide]; unfold Kd.p; simp
    rw [hd]
    clear hd
    obtain ⟨d, hd⟩ : ∃ d, d = decide (xv = yv) := ⟨_, rfl⟩
    rw [← hd] at HEQ ⊢
    clear hd
    have t0 : (xk.toList == xk.toList) = true := by simp
    go_enter Try.func104, Try.ntmps104
    go_wp2_with fail
    (with_reducible refine HEQ.out.mono ?_)
    rintro e w3 ⟨rfl, m, rfl⟩
    have HBn := Lib.hid (below_dn HB1.out m)
    go_wp2_with fail
    go_ret
    exact ⟨ret_b (by simp), HBn.out⟩
  · have hd : decide ((⟨xk, xA, xn, xc, xv⟩ : Kd).p = (⟨yk, yA, yn, yc, yv⟩ : Kd).p) = false := by
      rw [decide_eq_false]; unfold Kd.p; intro e; injection e with e; exact hk e
    rw [hd]
    clear hd
    have t0 : (xk.toList == yk.toList) = false := ba_tl_ne hk
    clear hk
    go_enter Try.func104, Try.ntmps104
    go_wp2_with fail
    go_ret
    exact ⟨rfl, HB1.out⟩

set_option maxHeartbeats 1600000 in
theorem eqKinds_any {w : World} {B B' n n' c c' : Nat} {A A' : Option Addr} {l l' : List Kd} (h : KsOk w B A n c l) (h' : KsOk w B' A' n' c' l') :
    Calls Try.prog 33 #[.slice A n c, .slice A' n' c', .func (.func 104) #[] #[]] w fun e w' => e = .returned (.bool (decide (l.map Kd.p = l'.map Kd.p))) ∧ Below w.heap.size w w' := by
  have hcap := h.cap
  have hcap2 := h.cap2
  have hcap' := h'.cap
  have hcap2' := h'.cap2
  by_cases h0 : n = n'
  · subst h0
    have t0 : ((n : Int) != n) = false := by simp
    have HK := Lib.hid h
    have HK' := Lib.hid h'
    have hB := h.lo
    have hB' := h'.lo
    clear h h'
    go_enter Try.func33, Try.ntmps33
    go_wp2_with fail
    go_loopw [17] (fun i wr => ∃ k : Nat, k ≤ n ∧ i = .int .i64 k ∧ Hid ((l.map Kd.p).take k = (l'.map Kd.p).take k) ∧ Hid (Below w.heap.size w wr)) (fun i _ => n - (intOf i).toNat)
    case atStart => exact ⟨0, Nat.zero_le _, rfl, Lib.hid rfl, Lib.hid (Below.refl _ _)⟩
    case round =>
      obtain ⟨k, hk, rfl, HT, HW⟩ := hrel
      by_cases hlt : k < n
      · obtain ⟨x, hx⟩ : ∃ x, l[k]? = some x := ⟨_, List.getElem?_eq_getElem (by have := HK.out.len; omega)⟩
        obtain ⟨y, hy⟩ : ∃ y, l'[k]? = some y := ⟨_, List.getElem?_eq_getElem (by have := HK'.out.len; omega)⟩
        have hbw := HW.out.mono hB
        have hbw' := HW.out.mono hB'
        obtain ⟨b, o, rfl, hb, q0, q1⟩ := (HK.out.below hbw).rd.kd hlt hx
        obtain ⟨b', o', rfl, hb', r0, r1⟩ := (HK'.out.below hbw').rd.kd hlt hy
        have HX : Hid ((l.map Kd.p)[k]? = some x.p) := Lib.hid (by rw [List.getElem?_map, hx]; rfl)
        have HY : Hid ((l'.map Kd.p)[k]? = some y.p) := Lib.hid (by rw [List.getElem?_map, hy]; rfl)
        have hb1 : Below wr.heap.size wr ((wr.alloc (.cells #[.string x.nm, .slice x.A x.n x.c] 63)).alloc (.cells #[.string y.nm, .slice y.A y.n y.c] 63)) := ((Below.refl _ _).alloc (Nat.le_refl _) _).alloc (by simp) _
        have hcl := clo104_any x y (wx := ((wr.alloc (.cells #[.string x.nm, .slice x.A x.n x.c] 63)).alloc (.cells #[.string y.nm, .slice y.A y.n y.c] 63))) (((HK.out.below hbw).ok x (List.mem_of_getElem? hx)).below (hb1.mono (Nat.le_trans hB HW.out.size))) (((HK'.out.below hbw').ok y (List.mem_of_getElem? hy)).below (hb1.mono (Nat.le_trans hB' HW.out.size))) (by have := HW.out.size; simp; omega) (by have := HW.out.size; simp; omega)
        obtain ⟨d, hd⟩ : ∃ d, d = decide (x.p = y.p) := ⟨_, rfl⟩
        rw [← hd] at hcl
        have HCL := Lib.hid hcl
        have HD := Lib.hid hd
        have HB1 := Lib.hid (HW.out.trans (hb1.mono HW.out.size))
        have hq := (((Below.refl wr.heap.size wr).alloc (Nat.le_refl _) (.cells #[.string x.nm, .slice x.A x.n x.c] 63)).block b' (by have := HW.out.size; omega))
        have HQ := Lib.hid hq
        have hkn : (k : Int) < n := by omega
        have hk0 : (0 : Int) ≤ k := by omega
        have hbr : b < wr.heap.size := by have := HW.out.size; omega
        have hbr' : b' < wr.heap.size := by have := HW.out.size; omega
        clear hx hy hbw hbw' hb1 hcl hd hq
        generalize hx_nm : x.nm = x_nm at *
        generalize hy_nm : y.nm = y_nm at *
        generalize hx_A : x.A = x_A at *
        generalize hy_A : y.A = y_A at *
        generalize hx_n : x.n = x_n at *
        generalize hy_n : y.n = y_n at *
        generalize hx_c : x.c = x_c at *
        generalize hy_c : y.c = y_c at *
        have HXY : True := trivial
        clear hx_nm hy_nm hx_A hy_A hx_n hy_n hx_c hy_c
        go_wp2_with fail
        (with_reducible refine HCL.out.mono ?_)
        rintro e w3 ⟨rfl, hb3⟩
        have HB3 := Lib.hid (HB1.out.trans (hb3.mono HB1.out.size))
        clear hb3
        cases d
        · go_wp2_with fail
          go_ret
          have hne : l.map Kd.p ≠ l'.map Kd.p := ne_of_at HX.out HY.out (of_decide_eq_false HD.out.symm)
          exact ⟨ret_b (by rw [decide_eq_false hne]), HB3.out⟩
        · go_wp2_with fail
          go_roundw
          case measure => simp [intOf]; omega
          case rel => exact ⟨k + 1, by omega, by go_num, Lib.hid (take_eq_succ HX.out HY.out HT.out (of_decide_eq_true HD.out.symm)), HB3⟩
      · obtain rfl : n = k := by omega
        go_wp2_with fail
        go_ret
        have h1 := HT.out
        rw [List.take_of_length_le (by rw [List.length_map, ← HK.out.len]; omega), List.take_of_length_le (by rw [List.length_map, ← HK'.out.len]; omega)] at h1
        exact ⟨ret_b (by simp [h1]), HW.out⟩
  · have t0 : ((n : Int) != n') = true := by simp; omega
    have HE : Hid (l.map Kd.p ≠ l'.map Kd.p) := Lib.hid (by
      intro e
      have := congrArg List.length e
      rw [List.length_map, List.length_map, ← h.len, ← h'.len] at this
      exact h0 this)
    clear h h' h0
    go_enter Try.func33, Try.ntmps33
    go_wp2_with fail
    go_ret
    exact ⟨ret_b (by simp [HE.out]), Below.refl _ _⟩
end Go.Proofs.Ytnidcmhfbkdioaa
