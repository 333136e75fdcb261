/-
  The contracts of world.Same and merge.sameItem. Conditions: what is read can be read.
-/
import Derived.Test.YtnidcmhfbkdioaaMd
namespace Go.Proofs.Ytnidcmhfbkdioaa
open Go.RowKit
set_option maxRecDepth 100000
instance : DecidableEq (Wv Kp2) := fun a b => decidable_of_iff (a.ks = b.ks ∧ a.gens = b.gens ∧ a.its = b.its) ⟨fun ⟨h1, h2, h3⟩ => by cases a; cases b; simp_all, fun h => by rw [h]; exact ⟨rfl, rfl, rfl⟩⟩

theorem Bk.two2 (w : World) (o : Obj) (t : TypeId) (cs : Array Value) : Bk ((w.alloc o).alloc (.cells cs t)) (w.heap.size + 1) t cs := by simpa using Bk.new (w.alloc o) t cs

set_option maxHeartbeats 800000 in
theorem clo116_any {wx : World} {B B' : Nat} (x y : It) (hx : ItOk wx B x) (hy : ItOk wx B' y) (hB : B ≤ wx.heap.size) (hB' : B' ≤ wx.heap.size) :
    Calls Try.prog 116 #[.agg #[.int .i64 x.e, .int .i64 x.g, .slice x.A x.n x.c], .agg #[.int .i64 y.e, .int .i64 y.g, .slice y.A y.n y.c]] wx fun e w' => e = .returned (.bool (decide (x.p = y.p))) ∧ Below wx.heap.size wx w' := by
  obtain ⟨xe, xg, xA, xn, xc, xv⟩ := x
  obtain ⟨ye, yg, yA, yn, yc, yv⟩ := y
  show Calls Try.prog 116 #[.agg #[.int .i64 xe, .int .i64 xg, .slice xA xn xc], .agg #[.int .i64 ye, .int .i64 yg, .slice yA yn yc]] wx _
  have hb1 : Below wx.heap.size wx ((wx.alloc (.cells #[.int .i64 xe, .int .i64 xg, .slice xA xn xc] 147)).alloc (.cells #[.int .i64 ye, .int .i64 yg, .slice yA yn yc] 147)) := ((Below.refl _ _).alloc (Nat.le_refl _) _).alloc (by simp) _
  have heq := sameComps_any (hx.cs.below (hb1.mono hB)) (hy.cs.below (hb1.mono hB'))
  have hsz : wx.heap.size ≤ ((wx.alloc (.cells #[.int .i64 xe, .int .i64 xg, .slice xA xn xc] 147)).alloc (.cells #[.int .i64 ye, .int .i64 yg, .slice yA yn yc] 147)).heap.size := hb1.size
  have E := eq128 xe xg ye yg
  have HEQ := Lib.hid heq
  have HB1 := Lib.hid hb1
  have HSZ := Lib.hid hsz
  clear hx hy hb1 heq hsz
  by_cases hk : xe = ye ∧ xg = yg
  · have hd : decide ((⟨xe, xg, xA, xn, xc, xv⟩ : It).p = (⟨ye, yg, yA, yn, yc, yv⟩ : It).p) = decide (xv.map Cm.p = yv.map Cm.p) := by
      rw [decide_eq_decide]; unfold It.p; obtain ⟨rfl, rfl⟩ := hk; simp
    rw [hd]
    rw [decide_eq_true hk] at E
    clear hd hk
    obtain ⟨d, hd⟩ : ∃ d, d = decide (xv.map Cm.p = yv.map Cm.p) := ⟨_, rfl⟩
    dsimp only at HEQ
    rw [← hd] at HEQ ⊢
    clear hd
    go_enter Try.func116, Try.ntmps116
    go_wp2_with fail
    (with_reducible refine HEQ.out.mono ?_)
    rintro e w3 ⟨rfl, hb3⟩
    have HBn := Lib.hid (HB1.out.trans (hb3.mono HSZ.out))
    go_wp2_with fail
    go_ret
    exact ⟨ret_b (by simp), HBn.out⟩
  · have hd : decide ((⟨xe, xg, xA, xn, xc, xv⟩ : It).p = (⟨ye, yg, yA, yn, yc, yv⟩ : It).p) = false := by
      rw [decide_eq_false]; unfold It.p; intro e; injection e with e _; injection e with e1 e2; exact hk ⟨e1, e2⟩
    rw [hd]
    rw [decide_eq_false hk] at E
    clear hd hk
    go_enter Try.func116, Try.ntmps116
    go_wp2_with fail
    go_ret
    exact ⟨rfl, HB1.out⟩

set_option maxHeartbeats 1600000 in
theorem eqItems_any {w : World} {B B' n n' c c' : Nat} {A A' : Option Addr} {l l' : List It} (h : IsOk w B A n c l) (h' : IsOk w B' A' n' c' l') :
    Calls Try.prog 115 #[.slice A n c, .slice A' n' c', .func (.func 116) #[] #[]] w fun e w' => e = .returned (.bool (decide (l.map It.p = l'.map It.p))) ∧ Below w.heap.size w w' := by
  have hcap := h.cap
  have hcap2 := h.cap2
  have hcap' := h'.cap
  have hcap2' := h'.cap2
  by_cases h0 : n = n'
  · subst h0
    have t0 : ((n : Int) != n) = false := by simp
    have HK := Lib.hid h
    have HK' := Lib.hid h'
    have hB := h.lo
    have hB' := h'.lo
    clear h h'
    go_enter Try.func115, Try.ntmps115
    go_wp2_with fail
    go_loopw [17] (fun i wr => ∃ k : Nat, k ≤ n ∧ i = .int .i64 k ∧ Hid ((l.map It.p).take k = (l'.map It.p).take k) ∧ Hid (Below w.heap.size w wr)) (fun i _ => n - (intOf i).toNat)
    case atStart => exact ⟨0, Nat.zero_le _, rfl, Lib.hid rfl, Lib.hid (Below.refl _ _)⟩
    case round =>
      obtain ⟨k, hk, rfl, HT, HW⟩ := hrel
      by_cases hlt : k < n
      · obtain ⟨x, hx⟩ : ∃ x, l[k]? = some x := ⟨_, List.getElem?_eq_getElem (by have := HK.out.len; omega)⟩
        obtain ⟨y, hy⟩ : ∃ y, l'[k]? = some y := ⟨_, List.getElem?_eq_getElem (by have := HK'.out.len; omega)⟩
        have hbw := HW.out.mono hB
        have hbw' := HW.out.mono hB'
        obtain ⟨b, o, rfl, hb, q0, q1, q2⟩ := (HK.out.below hbw).rd.it hlt hx
        obtain ⟨b', o', rfl, hb', r0, r1, r2⟩ := (HK'.out.below hbw').rd.it hlt hy
        have HX : Hid ((l.map It.p)[k]? = some x.p) := Lib.hid (by rw [List.getElem?_map, hx]; rfl)
        have HY : Hid ((l'.map It.p)[k]? = some y.p) := Lib.hid (by rw [List.getElem?_map, hy]; rfl)
        have hb1 : Below wr.heap.size wr ((wr.alloc (.cells #[.int .i64 x.e, .int .i64 x.g, .slice x.A x.n x.c] 147)).alloc (.cells #[.int .i64 y.e, .int .i64 y.g, .slice y.A y.n y.c] 147)) := ((Below.refl _ _).alloc (Nat.le_refl _) _).alloc (by simp) _
        have hcl := clo116_any x y (wx := ((wr.alloc (.cells #[.int .i64 x.e, .int .i64 x.g, .slice x.A x.n x.c] 147)).alloc (.cells #[.int .i64 y.e, .int .i64 y.g, .slice y.A y.n y.c] 147))) (((HK.out.below hbw).ok x (List.mem_of_getElem? hx)).below (hb1.mono (Nat.le_trans hB HW.out.size))) (((HK'.out.below hbw').ok y (List.mem_of_getElem? hy)).below (hb1.mono (Nat.le_trans hB' HW.out.size))) (by have := HW.out.size; simp; omega) (by have := HW.out.size; simp; omega)
        obtain ⟨d, hd⟩ : ∃ d, d = decide (x.p = y.p) := ⟨_, rfl⟩
        rw [← hd] at hcl
        have HCL := Lib.hid hcl
        have HD := Lib.hid hd
        have HB1 := Lib.hid (HW.out.trans (hb1.mono HW.out.size))
        have hq := (((Below.refl wr.heap.size wr).alloc (Nat.le_refl _) (.cells #[.int .i64 x.e, .int .i64 x.g, .slice x.A x.n x.c] 147)).block b' (by have := HW.out.size; omega))
        have HQ := Lib.hid hq
        have hkn : (k : Int) < n := by omega
        have hk0 : (0 : Int) ≤ k := by omega
        have hbr : b < wr.heap.size := by have := HW.out.size; omega
        have hbr' : b' < wr.heap.size := by have := HW.out.size; omega
        clear hx hy hbw hbw' hb1 hcl hd hq
        generalize hx_e : x.e = x_e at *
        generalize hy_e : y.e = y_e at *
        generalize hx_g : x.g = x_g at *
        generalize hy_g : y.g = y_g at *
        generalize hx_A : x.A = x_A at *
        generalize hy_A : y.A = y_A at *
        generalize hx_n : x.n = x_n at *
        generalize hy_n : y.n = y_n at *
        generalize hx_c : x.c = x_c at *
        generalize hy_c : y.c = y_c at *
        have HXY : True := trivial
        clear hx_e hy_e hx_g hy_g hx_A hy_A hx_n hy_n hx_c hy_c
        go_wp2_with fail
        (with_reducible refine HCL.out.mono ?_)
        rintro e w3 ⟨rfl, hb3⟩
        have HB3 := Lib.hid (HB1.out.trans (hb3.mono HB1.out.size))
        clear hb3
        cases d
        · go_wp2_with fail
          go_ret
          have hne : l.map It.p ≠ l'.map It.p := ne_of_at HX.out HY.out (of_decide_eq_false HD.out.symm)
          exact ⟨ret_b (by rw [decide_eq_false hne]), HB3.out⟩
        · go_wp2_with fail
          go_roundw
          case measure => simp [intOf]; omega
          case rel => exact ⟨k + 1, by omega, by go_num, Lib.hid (take_eq_succ HX.out HY.out HT.out (of_decide_eq_true HD.out.symm)), HB3⟩
      · obtain rfl : n = k := by omega
        go_wp2_with fail
        go_ret
        have h1 := HT.out
        rw [List.take_of_length_le (by rw [List.length_map, ← HK.out.len]; omega), List.take_of_length_le (by rw [List.length_map, ← HK'.out.len]; omega)] at h1
        exact ⟨ret_b (by simp [h1]), HW.out⟩
  · have t0 : ((n : Int) != n') = true := by simp; omega
    have HE : Hid (l.map It.p ≠ l'.map It.p) := Lib.hid (by
      intro e
      have := congrArg List.length e
      rw [List.length_map, List.length_map, ← h.len, ← h'.len] at this
      exact h0 this)
    clear h h' h0
    go_enter Try.func115, Try.ntmps115
    go_wp2_with fail
    go_ret
    exact ⟨ret_b (by simp [HE.out]), Below.refl _ _⟩

set_option maxHeartbeats 800000 in
theorem clo217_any {wx : World} {B B' : Nat} (x y : Cm) (hx : CmOk wx B x) (hy : CmOk wx B' y) (hB : B ≤ wx.heap.size) (hB' : B' ≤ wx.heap.size) :
    Calls Try.prog 217 #[.agg #[.int .i64 x.k, .slice x.A x.n x.c], .agg #[.int .i64 y.k, .slice y.A y.n y.c]] wx fun e w' => e = .returned (.bool (decide (x.p = y.p))) ∧ Below wx.heap.size wx w' := by
  obtain ⟨xk, xA, xn, xc, xv⟩ := x
  obtain ⟨yk, yA, yn, yc, yv⟩ := y
  show Calls Try.prog 217 #[.agg #[.int .i64 xk, .slice xA xn xc], .agg #[.int .i64 yk, .slice yA yn yc]] wx _
  have hb1 : Below wx.heap.size wx ((wx.alloc (.cells #[.int .i64 xk, .slice xA xn xc] 166)).alloc (.cells #[.int .i64 yk, .slice yA yn yc] 166)) := ((Below.refl _ _).alloc (Nat.le_refl _) _).alloc (by simp) _
  have heq := equalInts_any xA yA xn xc yn yc (max B B') xv yv ((wx.alloc (.cells #[.int .i64 xk, .slice xA xn xc] 166)).alloc (.cells #[.int .i64 yk, .slice yA yn yc] 166)) hx.len hy.len (by have := hx.cap; have := hx.cap2; dsimp only at *; omega) ((hx.rd.below (hb1.mono hB)).more (by omega)) ((hy.rd.below (hb1.mono hB')).more (by omega))
  have HEQ := Lib.hid heq
  have HB1 := Lib.hid hb1
  clear hx hy hb1 heq
  by_cases hk : xk = yk
  · subst hk
    have hd : decide ((⟨xk, xA, xn, xc, xv⟩ : Cm).p = (⟨xk, yA, yn, yc, yv⟩ : Cm).p) = decide (xv = yv) := by
      rw [decide_eq_decide]; unfold Cm.p; simp
    rw [hd]
    clear hd
    obtain ⟨d, hd⟩ : ∃ d, d = decide (xv = yv) := ⟨_, rfl⟩
    rw [← hd] at HEQ ⊢
    clear hd
    have t0 : (xk == xk) = true := by simp
    go_enter Try.func217, Try.ntmps217
    go_wp2_with fail
    (with_reducible refine HEQ.out.mono ?_)
    rintro e w3 ⟨rfl, m, rfl⟩
    have HBn := Lib.hid (below_dn HB1.out m)
    go_wp2_with fail
    go_ret
    exact ⟨ret_b (by simp), HBn.out⟩
  · have hd : decide ((⟨xk, xA, xn, xc, xv⟩ : Cm).p = (⟨yk, yA, yn, yc, yv⟩ : Cm).p) = false := by
      rw [decide_eq_false]; unfold Cm.p; intro e; injection e with e; exact hk e
    rw [hd]
    clear hd
    have t0 : (xk == yk) = false := by simp [hk]
    clear hk
    go_enter Try.func217, Try.ntmps217
    go_wp2_with fail
    go_ret
    exact ⟨rfl, HB1.out⟩

set_option maxHeartbeats 1600000 in
theorem eqCompsM_any {w : World} {B B' n n' c c' : Nat} {A A' : Option Addr} {l l' : List Cm} (h : CsOk w B A n c l) (h' : CsOk w B' A' n' c' l') :
    Calls Try.prog 142 #[.slice A n c, .slice A' n' c', .func (.func 217) #[] #[]] w fun e w' => e = .returned (.bool (decide (l.map Cm.p = l'.map Cm.p))) ∧ Below w.heap.size w w' := by
  have hcap := h.cap
  have hcap2 := h.cap2
  have hcap' := h'.cap
  have hcap2' := h'.cap2
  by_cases h0 : n = n'
  · subst h0
    have t0 : ((n : Int) != n) = false := by simp
    have HK := Lib.hid h
    have HK' := Lib.hid h'
    have hB := h.lo
    have hB' := h'.lo
    clear h h'
    go_enter Try.func142, Try.ntmps142
    go_wp2_with fail
    go_loopw [17] (fun i wr => ∃ k : Nat, k ≤ n ∧ i = .int .i64 k ∧ Hid ((l.map Cm.p).take k = (l'.map Cm.p).take k) ∧ Hid (Below w.heap.size w wr)) (fun i _ => n - (intOf i).toNat)
    case atStart => exact ⟨0, Nat.zero_le _, rfl, Lib.hid rfl, Lib.hid (Below.refl _ _)⟩
    case round =>
      obtain ⟨k, hk, rfl, HT, HW⟩ := hrel
      by_cases hlt : k < n
      · obtain ⟨x, hx⟩ : ∃ x, l[k]? = some x := ⟨_, List.getElem?_eq_getElem (by have := HK.out.len; omega)⟩
        obtain ⟨y, hy⟩ : ∃ y, l'[k]? = some y := ⟨_, List.getElem?_eq_getElem (by have := HK'.out.len; omega)⟩
        have hbw := HW.out.mono hB
        have hbw' := HW.out.mono hB'
        obtain ⟨b, o, rfl, hb, q0, q1⟩ := (HK.out.below hbw).rd.cm hlt hx
        obtain ⟨b', o', rfl, hb', r0, r1⟩ := (HK'.out.below hbw').rd.cm hlt hy
        have HX : Hid ((l.map Cm.p)[k]? = some x.p) := Lib.hid (by rw [List.getElem?_map, hx]; rfl)
        have HY : Hid ((l'.map Cm.p)[k]? = some y.p) := Lib.hid (by rw [List.getElem?_map, hy]; rfl)
        have hb1 : Below wr.heap.size wr ((wr.alloc (.cells #[.int .i64 x.k, .slice x.A x.n x.c] 166)).alloc (.cells #[.int .i64 y.k, .slice y.A y.n y.c] 166)) := ((Below.refl _ _).alloc (Nat.le_refl _) _).alloc (by simp) _
        have hcl := clo217_any x y (wx := ((wr.alloc (.cells #[.int .i64 x.k, .slice x.A x.n x.c] 166)).alloc (.cells #[.int .i64 y.k, .slice y.A y.n y.c] 166))) (((HK.out.below hbw).ok x (List.mem_of_getElem? hx)).below (hb1.mono (Nat.le_trans hB HW.out.size))) (((HK'.out.below hbw').ok y (List.mem_of_getElem? hy)).below (hb1.mono (Nat.le_trans hB' HW.out.size))) (by have := HW.out.size; simp; omega) (by have := HW.out.size; simp; omega)
        obtain ⟨d, hd⟩ : ∃ d, d = decide (x.p = y.p) := ⟨_, rfl⟩
        rw [← hd] at hcl
        have HCL := Lib.hid hcl
        have HD := Lib.hid hd
        have HB1 := Lib.hid (HW.out.trans (hb1.mono HW.out.size))
        have hq := (((Below.refl wr.heap.size wr).alloc (Nat.le_refl _) (.cells #[.int .i64 x.k, .slice x.A x.n x.c] 166)).block b' (by have := HW.out.size; omega))
        have HQ := Lib.hid hq
        have hkn : (k : Int) < n := by omega
        have hk0 : (0 : Int) ≤ k := by omega
        have hbr : b < wr.heap.size := by have := HW.out.size; omega
        have hbr' : b' < wr.heap.size := by have := HW.out.size; omega
        clear hx hy hbw hbw' hb1 hcl hd hq
        generalize hx_k : x.k = x_k at *
        generalize hy_k : y.k = y_k at *
        generalize hx_A : x.A = x_A at *
        generalize hy_A : y.A = y_A at *
        generalize hx_n : x.n = x_n at *
        generalize hy_n : y.n = y_n at *
        generalize hx_c : x.c = x_c at *
        generalize hy_c : y.c = y_c at *
        have HXY : True := trivial
        clear hx_k hy_k hx_A hy_A hx_n hy_n hx_c hy_c
        go_wp2_with fail
        (with_reducible refine HCL.out.mono ?_)
        rintro e w3 ⟨rfl, hb3⟩
        have HB3 := Lib.hid (HB1.out.trans (hb3.mono HB1.out.size))
        clear hb3
        cases d
        · go_wp2_with fail
          go_ret
          have hne : l.map Cm.p ≠ l'.map Cm.p := ne_of_at HX.out HY.out (of_decide_eq_false HD.out.symm)
          exact ⟨ret_b (by rw [decide_eq_false hne]), HB3.out⟩
        · go_wp2_with fail
          go_roundw
          case measure => simp [intOf]; omega
          case rel => exact ⟨k + 1, by omega, by go_num, Lib.hid (take_eq_succ HX.out HY.out HT.out (of_decide_eq_true HD.out.symm)), HB3⟩
      · obtain rfl : n = k := by omega
        go_wp2_with fail
        go_ret
        have h1 := HT.out
        rw [List.take_of_length_le (by rw [List.length_map, ← HK.out.len]; omega), List.take_of_length_le (by rw [List.length_map, ← HK'.out.len]; omega)] at h1
        exact ⟨ret_b (by simp [h1]), HW.out⟩
  · have t0 : ((n : Int) != n') = true := by simp; omega
    have HE : Hid (l.map Cm.p ≠ l'.map Cm.p) := Lib.hid (by
      intro e
      have := congrArg List.length e
      rw [List.length_map, List.length_map, ← h.len, ← h'.len] at this
      exact h0 this)
    clear h h' h0
    go_enter Try.func142, Try.ntmps142
    go_wp2_with fail
    go_ret
    exact ⟨ret_b (by simp [HE.out]), Below.refl _ _⟩

set_option maxHeartbeats 800000 in
theorem sameItem_any {wx : World} {B B' : Nat} (x y : It) (hx : ItOk wx B x) (hy : ItOk wx B' y) (hB : B ≤ wx.heap.size) (hB' : B' ≤ wx.heap.size) :
    Calls Try.prog 173 #[.agg #[.int .i64 x.e, .int .i64 x.g, .slice x.A x.n x.c], .agg #[.int .i64 y.e, .int .i64 y.g, .slice y.A y.n y.c]] wx fun e w' => e = .returned (.bool (decide (x.p = y.p))) ∧ Below wx.heap.size wx w' := by
  obtain ⟨xe, xg, xA, xn, xc, xv⟩ := x
  obtain ⟨ye, yg, yA, yn, yc, yv⟩ := y
  show Calls Try.prog 173 #[.agg #[.int .i64 xe, .int .i64 xg, .slice xA xn xc], .agg #[.int .i64 ye, .int .i64 yg, .slice yA yn yc]] wx _
  have hb1 : Below wx.heap.size wx ((wx.alloc (.cells #[.int .i64 xe, .int .i64 xg, .slice xA xn xc] 147)).alloc (.cells #[.int .i64 ye, .int .i64 yg, .slice yA yn yc] 147)) := ((Below.refl _ _).alloc (Nat.le_refl _) _).alloc (by simp) _
  have heq := eqCompsM_any (hx.cs.below (hb1.mono hB)) (hy.cs.below (hb1.mono hB'))
  have hsz : wx.heap.size ≤ ((wx.alloc (.cells #[.int .i64 xe, .int .i64 xg, .slice xA xn xc] 147)).alloc (.cells #[.int .i64 ye, .int .i64 yg, .slice yA yn yc] 147)).heap.size := hb1.size
  have E := eq128 xe xg ye yg
  have HEQ := Lib.hid heq
  have HB1 := Lib.hid hb1
  have HSZ := Lib.hid hsz
  clear hx hy hb1 heq hsz
  by_cases hk : xe = ye ∧ xg = yg
  · have hd : decide ((⟨xe, xg, xA, xn, xc, xv⟩ : It).p = (⟨ye, yg, yA, yn, yc, yv⟩ : It).p) = decide (xv.map Cm.p = yv.map Cm.p) := by
      rw [decide_eq_decide]; unfold It.p; obtain ⟨rfl, rfl⟩ := hk; simp
    rw [hd]
    rw [decide_eq_true hk] at E
    clear hd hk
    obtain ⟨d, hd⟩ : ∃ d, d = decide (xv.map Cm.p = yv.map Cm.p) := ⟨_, rfl⟩
    dsimp only at HEQ
    rw [← hd] at HEQ ⊢
    clear hd
    go_enter Try.func173, Try.ntmps173
    go_wp2_with fail
    (with_reducible refine HEQ.out.mono ?_)
    rintro e w3 ⟨rfl, hb3⟩
    have HBn := Lib.hid (HB1.out.trans (hb3.mono HSZ.out))
    go_wp2_with fail
    go_ret
    exact ⟨ret_b (by simp), HBn.out⟩
  · have hd : decide ((⟨xe, xg, xA, xn, xc, xv⟩ : It).p = (⟨ye, yg, yA, yn, yc, yv⟩ : It).p) = false := by
      rw [decide_eq_false]; unfold It.p; intro e; injection e with e _; injection e with e1 e2; exact hk ⟨e1, e2⟩
    rw [hd]
    rw [decide_eq_false hk] at E
    clear hd hk
    go_enter Try.func173, Try.ntmps173
    go_wp2_with fail
    go_ret
    exact ⟨rfl, HB1.out⟩

set_option maxHeartbeats 1600000 in
theorem wsame_any {w : World} {B B' : Nat} {x y : Wd} (hx : WdOk w B x) (hy : WdOk w B' y) : Calls Try.prog 38 #[x.v, y.v] w fun e w' => e = .returned (.bool (decide (x.p = y.p))) ∧ Below w.heap.size w w' := by
  obtain ⟨kA, kn, kc, ks, gA, gn, gc, gens, iA, im, ic, its⟩ := x
  obtain ⟨kA', kn', kc', ks', gA', gn', gc', gens', iA', im', ic', its'⟩ := y
  obtain ⟨hk, hg, hi⟩ := hx
  obtain ⟨hk', hg', hi'⟩ := hy
  dsimp only at hk hg hi hk' hg' hi'
  show Calls Try.prog 38 #[.agg #[.slice kA kn kc, .slice gA gn gc, .slice iA im ic], .agg #[.slice kA' kn' kc', .slice gA' gn' gc', .slice iA' im' ic']] w _
  have hd : decide ((⟨kA, kn, kc, ks, gA, gn, gc, gens, iA, im, ic, its⟩ : Wd).p = (⟨kA', kn', kc', ks', gA', gn', gc', gens', iA', im', ic', its'⟩ : Wd).p) = (decide (ks.map Kd.p = ks'.map Kd.p) && (decide (gens = gens') && decide (its.map It.p = its'.map It.p))) := by
    rw [Bool.eq_iff_iff]
    simp only [Bool.and_eq_true, decide_eq_true_iff]
    unfold Wd.p
    simp
  rw [hd]
  clear hd
  have hb1 : Below w.heap.size w ((w.alloc (.cells #[.slice kA kn kc, .slice gA gn gc, .slice iA im ic] 52)).alloc (.cells #[.slice kA' kn' kc', .slice gA' gn' gc', .slice iA' im' ic'] 52)) := ((Below.refl _ _).alloc (Nat.le_refl _) _).alloc (by simp) _
  have hp1 : Bk ((w.alloc (.cells #[.slice kA kn kc, .slice gA gn gc, .slice iA im ic] 52)).alloc (.cells #[.slice kA' kn' kc', .slice gA' gn' gc', .slice iA' im' ic'] 52)) w.heap.size 52 #[.slice kA kn kc, .slice gA gn gc, .slice iA im ic] := (Bk.new w 52 _).alloc _
  have hp2 := Bk.two2 w (.cells #[.slice kA kn kc, .slice gA gn gc, .slice iA im ic] 52) 52 #[.slice kA' kn' kc', .slice gA' gn' gc', .slice iA' im' ic']
  have hs1 := ksame_any (hk.below (hb1.mono hk.lo)) (hk'.below (hb1.mono hk'.lo))
  have hs2 := fun wx (hb : Below w.heap.size w wx) => equalInts_any gA gA' gn gc gn' gc' (max B B') gens gens' wx hg.len hg'.len (by have := hg.cap; have := hg.cap2; omega) ((hg.rd.below (hb.mono hg.lo)).more (by omega)) ((hg'.rd.below (hb.mono hg'.lo)).more (by omega))
  have hs3 := fun wx (hb : Below w.heap.size w wx) => eqItems_any (hi.below (hb.mono hi.lo)) (hi'.below (hb.mono hi'.lo))
  obtain ⟨d1, hd1⟩ : ∃ d, d = decide (ks.map Kd.p = ks'.map Kd.p) := ⟨_, rfl⟩
  obtain ⟨d2, hd2⟩ : ∃ d, d = decide (gens = gens') := ⟨_, rfl⟩
  obtain ⟨d3, hd3⟩ : ∃ d, d = decide (its.map It.p = its'.map It.p) := ⟨_, rfl⟩
  rw [← hd1] at hs1
  rw [← hd2] at hs2
  rw [← hd3] at hs3
  rw [← hd1, ← hd2, ← hd3]
  have HS1 := Lib.hid hs1
  have HS2 := Lib.hid hs2
  have HS3 := Lib.hid hs3
  have HB1 := Lib.hid hb1
  have HP1 := Lib.hid hp1
  have HP2 := Lib.hid hp2
  clear hk hg hi hk' hg' hi' hb1 hp1 hp2 hs1 hs2 hs3 hd1 hd2 hd3
  go_enter Try.func38, Try.ntmps38
  go_wp2_with fail
  (with_reducible refine HS1.out.mono ?_)
  rintro e w3 ⟨rfl, m, rfl⟩
  have HBn := Lib.hid (below_dn HB1.out m)
  have HP1n := Lib.hid (HP1.out.drewN m)
  have HP2n := Lib.hid (HP2.out.drewN m)
  clear HB1 HP1 HP2 HS1
  generalize ((w.alloc (.cells #[.slice kA kn kc, .slice gA gn gc, .slice iA im ic] 52)).alloc (.cells #[.slice kA' kn' kc', .slice gA' gn' gc', .slice iA' im' ic'] 52)).drewN m = W1 at *
  cases d1
  · go_wp2_with fail
    go_ret
    exact ⟨rfl, HBn.out⟩
  · have x1 : W1.cell? ⟨w.heap.size, 1, none⟩ = some (.slice gA gn gc) := HP1n.out.cell 1
    have y1 : W1.cell? ⟨w.heap.size + 1, 1, none⟩ = some (.slice gA' gn' gc') := HP2n.out.cell 1
    go_wp2_with fail
    (with_reducible refine (HS2.out _ HBn.out).mono ?_)
    rintro e w4 ⟨rfl, m2, rfl⟩
    have HBm := Lib.hid (below_dn HBn.out m2)
    have HP1m := Lib.hid (HP1n.out.drewN m2)
    have HP2m := Lib.hid (HP2n.out.drewN m2)
    clear x1 y1 HBn HP1n HP2n HS2
    generalize W1.drewN m2 = W2 at *
    cases d2
    · go_wp2_with fail
      go_ret
      exact ⟨rfl, HBm.out⟩
    · have x2 : W2.cell? ⟨w.heap.size, 2, none⟩ = some (.slice iA im ic) := HP1m.out.cell 2
      have y2 : W2.cell? ⟨w.heap.size + 1, 2, none⟩ = some (.slice iA' im' ic') := HP2m.out.cell 2
      go_wp2_with fail
      (with_reducible refine (HS3.out _ HBm.out).mono ?_)
      rintro e w5 ⟨rfl, hb5⟩
      have HB5 := Lib.hid (HBm.out.trans (hb5.mono HBm.out.size))
      clear hb5
      go_wp2_with fail
      go_ret
      exact ⟨ret_b (by simp), HB5.out⟩
end Go.Proofs.Ytnidcmhfbkdioaa
