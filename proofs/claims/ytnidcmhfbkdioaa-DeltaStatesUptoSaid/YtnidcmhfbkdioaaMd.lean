/-
  The contract of world.SameComps. Conditions: what is read can be read.
-/
import Derived.Test.YtnidcmhfbkdioaaMb
namespace Go.Proofs.Ytnidcmhfbkdioaa
open Go.RowKit
set_option maxRecDepth 100000
theorem Cm.vals_eq (_x : Cm) : True := trivial

set_option maxHeartbeats 800000 in
theorem clo179_any {wx : World} {B B' : Nat} (x y : Cm) (hx : CmOk wx B x) (hy : CmOk wx B' y) (hB : B ≤ wx.heap.size) (hB' : B' ≤ wx.heap.size) :
    Calls Try.prog 179 #[.agg #[.int .i64 x.k, .slice x.A x.n x.c], .agg #[.int .i64 y.k, .slice y.A y.n y.c]] wx fun e w' => e = .returned (.bool (decide (x.p = y.p))) ∧ Below wx.heap.size wx w' := by
  obtain ⟨xk, xA, xn, xc, xv⟩ := x
  obtain ⟨yk, yA, yn, yc, yv⟩ := y
  show Calls Try.prog 179 #[.agg #[.int .i64 xk, .slice xA xn xc], .agg #[.int .i64 yk, .slice yA yn yc]] wx _
  have hb1 : Below wx.heap.size wx ((wx.alloc (.cells #[.int .i64 xk, .slice xA xn xc] 166)).alloc (.cells #[.int .i64 yk, .slice yA yn yc] 166)) := ((Below.refl _ _).alloc (Nat.le_refl _) _).alloc (by simp) _
  have heq := equalInts_any xA yA xn xc yn yc (max B B') xv yv ((wx.alloc (.cells #[.int .i64 xk, .slice xA xn xc] 166)).alloc (.cells #[.int .i64 yk, .slice yA yn yc] 166)) hx.len hy.len (by have := hx.cap; have := hx.cap2; dsimp only at *; omega) ((hx.rd.below (hb1.mono hB)).more (by omega)) ((hy.rd.below (hb1.mono hB')).more (by omega))
  have HEQ := Lib.hid heq
  have HB1 := Lib.hid hb1
  clear hx hy hb1 heq
  by_cases hk : xk = yk
  · subst hk
    have hd : decide ((⟨xk, xA, xn, xc, xv⟩ : Cm).p = (⟨xk, yA, yn, yc, yv⟩ : Cm).p) = decide (xv = yv) := by
      rw [decide_eq_decide]; unfold Cm.p; simp
    rw [hd]
    clear hd
    obtain ⟨d, hd⟩ : ∃ d, d = decide (xv = yv) := ⟨_, rfl⟩
    rw [← hd] at HEQ ⊢
    clear hd
    have t0 : (xk == xk) = true := by simp
    go_enter Try.func179, Try.ntmps179
    go_wp2_with fail
    (with_reducible refine HEQ.out.mono ?_)
    rintro e w3 ⟨rfl, m, rfl⟩
    have HBn := Lib.hid (below_dn HB1.out m)
    go_wp2_with fail
    go_ret
    exact ⟨ret_b (by simp), HBn.out⟩
  · have hd : decide ((⟨xk, xA, xn, xc, xv⟩ : Cm).p = (⟨yk, yA, yn, yc, yv⟩ : Cm).p) = false := by
      rw [decide_eq_false]; unfold Cm.p; intro e; injection e with e; exact hk e
    rw [hd]
    clear hd
    have t0 : (xk == yk) = false := by simp [hk]
    clear hk
    go_enter Try.func179, Try.ntmps179
    go_wp2_with fail
    go_ret
    exact ⟨rfl, HB1.out⟩

set_option maxHeartbeats 1600000 in
theorem eqComps_any {w : World} {B B' n n' c c' : Nat} {A A' : Option Addr} {l l' : List Cm} (h : CsOk w B A n c l) (h' : CsOk w B' A' n' c' l') :
    Calls Try.prog 142 #[.slice A n c, .slice A' n' c', .func (.func 179) #[] #[]] w fun e w' => e = .returned (.bool (decide (l.map Cm.p = l'.map Cm.p))) ∧ Below w.heap.size w w' := by
  have hcap := h.cap
  have hcap2 := h.cap2
  have hcap' := h'.cap
  have hcap2' := h'.cap2
  by_cases h0 : n = n'
  · subst h0
    have t0 : ((n : Int) != n) = false := by simp
    have HK := Lib.hid h
    have HK' := Lib.hid h'
    have hB := h.lo
    have hB' := h'.lo
    clear h h'
    go_enter Try.func142, Try.ntmps142
    go_wp2_with fail
    go_loopw [17] (fun i wr => ∃ k : Nat, k ≤ n ∧ i = .int .i64 k ∧ Hid ((l.map Cm.p).take k = (l'.map Cm.p).take k) ∧ Hid (Below w.heap.size w wr)) (fun i _ => n - (intOf i).toNat)
    case atStart => exact ⟨0, Nat.zero_le _, rfl, Lib.hid rfl, Lib.hid (Below.refl _ _)⟩
    case round =>
      obtain ⟨k, hk, rfl, HT, HW⟩ := hrel
      by_cases hlt : k < n
      · obtain ⟨x, hx⟩ : ∃ x, l[k]? = some x := ⟨_, List.getElem?_eq_getElem (by have := HK.out.len; omega)⟩
        obtain ⟨y, hy⟩ : ∃ y, l'[k]? = some y := ⟨_, List.getElem?_eq_getElem (by have := HK'.out.len; omega)⟩
        have hbw := HW.out.mono hB
        have hbw' := HW.out.mono hB'
        obtain ⟨b, o, rfl, hb, q0, q1⟩ := (HK.out.below hbw).rd.cm hlt hx
        obtain ⟨b', o', rfl, hb', r0, r1⟩ := (HK'.out.below hbw').rd.cm hlt hy
        have HX : Hid ((l.map Cm.p)[k]? = some x.p) := Lib.hid (by rw [List.getElem?_map, hx]; rfl)
        have HY : Hid ((l'.map Cm.p)[k]? = some y.p) := Lib.hid (by rw [List.getElem?_map, hy]; rfl)
        have hb1 : Below wr.heap.size wr ((wr.alloc (.cells #[.int .i64 x.k, .slice x.A x.n x.c] 166)).alloc (.cells #[.int .i64 y.k, .slice y.A y.n y.c] 166)) := ((Below.refl _ _).alloc (Nat.le_refl _) _).alloc (by simp) _
        have hcl := clo179_any x y (wx := ((wr.alloc (.cells #[.int .i64 x.k, .slice x.A x.n x.c] 166)).alloc (.cells #[.int .i64 y.k, .slice y.A y.n y.c] 166))) (((HK.out.below hbw).ok x (List.mem_of_getElem? hx)).below (hb1.mono (Nat.le_trans hB HW.out.size))) (((HK'.out.below hbw').ok y (List.mem_of_getElem? hy)).below (hb1.mono (Nat.le_trans hB' HW.out.size))) (by have := HW.out.size; simp; omega) (by have := HW.out.size; simp; omega)
        obtain ⟨d, hd⟩ : ∃ d, d = decide (x.p = y.p) := ⟨_, rfl⟩
        rw [← hd] at hcl
        have HCL := Lib.hid hcl
        have HD := Lib.hid hd
        have HB1 := Lib.hid (HW.out.trans (hb1.mono HW.out.size))
        have hq := (((Below.refl wr.heap.size wr).alloc (Nat.le_refl _) (.cells #[.int .i64 x.k, .slice x.A x.n x.c] 166)).block b' (by have := HW.out.size; omega))
        have HQ := Lib.hid hq
        have hkn : (k : Int) < n := by omega
        have hk0 : (0 : Int) ≤ k := by omega
        have hbr : b < wr.heap.size := by have := HW.out.size; omega
        have hbr' : b' < wr.heap.size := by have := HW.out.size; omega
        clear hx hy hbw hbw' hb1 hcl hd hq
        generalize hx_k : x.k = x_k at *
        generalize hy_k : y.k = y_k at *
        generalize hx_A : x.A = x_A at *
        generalize hy_A : y.A = y_A at *
        generalize hx_n : x.n = x_n at *
        generalize hy_n : y.n = y_n at *
        generalize hx_c : x.c = x_c at *
        generalize hy_c : y.c = y_c at *
        have HXY : True := trivial
        clear hx_k hy_k hx_A hy_A hx_n hy_n hx_c hy_c
        go_wp2_with fail
        (with_reducible refine HCL.out.mono ?_)
        rintro e w3 ⟨rfl, hb3⟩
        have HB3 := Lib.hid (HB1.out.trans (hb3.mono HB1.out.size))
        clear hb3
        cases d
        · go_wp2_with fail
          go_ret
          have hne : l.map Cm.p ≠ l'.map Cm.p := ne_of_at HX.out HY.out (of_decide_eq_false HD.out.symm)
          exact ⟨ret_b (by rw [decide_eq_false hne]), HB3.out⟩
        · go_wp2_with fail
          go_roundw
          case measure => simp [intOf]; omega
          case rel => exact ⟨k + 1, by omega, by go_num, Lib.hid (take_eq_succ HX.out HY.out HT.out (of_decide_eq_true HD.out.symm)), HB3⟩
      · obtain rfl : n = k := by omega
        go_wp2_with fail
        go_ret
        have h1 := HT.out
        rw [List.take_of_length_le (by rw [List.length_map, ← HK.out.len]; omega), List.take_of_length_le (by rw [List.length_map, ← HK'.out.len]; omega)] at h1
        exact ⟨ret_b (by simp [h1]), HW.out⟩
  · have t0 : ((n : Int) != n') = true := by simp; omega
    have HE : Hid (l.map Cm.p ≠ l'.map Cm.p) := Lib.hid (by
      intro e
      have := congrArg List.length e
      rw [List.length_map, List.length_map, ← h.len, ← h'.len] at this
      exact h0 this)
    clear h h' h0
    go_enter Try.func142, Try.ntmps142
    go_wp2_with fail
    go_ret
    exact ⟨ret_b (by simp [HE.out]), Below.refl _ _⟩

theorem sameComps_any {w : World} {B B' n n' c c' : Nat} {A A' : Option Addr} {l l' : List Cm} (h : CsOk w B A n c l) (h' : CsOk w B' A' n' c' l') :
    Calls Try.prog 117 #[.slice A n c, .slice A' n' c'] w fun e w' => e = .returned (.bool (decide (l.map Cm.p = l'.map Cm.p))) ∧ Below w.heap.size w w' := by
  have HE := Lib.hid (eqComps_any h h')
  obtain ⟨d, hd⟩ : ∃ d, d = decide (l.map Cm.p = l'.map Cm.p) := ⟨_, rfl⟩
  rw [← hd] at HE ⊢
  clear h h' hd
  go_enter Try.func117, Try.ntmps117
  go_wp2_with fail
  (with_reducible refine HE.out.mono ?_)
  rintro e w3 ⟨rfl, hb⟩
  go_wp2_with fail
  go_ret
  exact ⟨rfl, hb⟩
end Go.Proofs.Ytnidcmhfbkdioaa
