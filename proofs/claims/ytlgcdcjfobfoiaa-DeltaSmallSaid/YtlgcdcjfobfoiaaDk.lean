/-
  The law DeltaSmall: the walk. Conditions: what came in can be read; its bytes are within the reach.
-/
import Derived.Test.YtlgcdcjfobfoiaaDi
import Derived.Test.YtlgcdcjfobfoiaaNtf
import Derived.Test.YtlgcdcjfobfoiaaFr3
namespace Go.Proofs.Ytlgcdcjfobfoiaa
open Go.RowKit
set_option maxRecDepth 100000

theorem wf_i64r {l : List Int} (h : ∀ i ∈ l, (Lit.int .i64 i).wf = true) : i64r l := fun x hx => bounds_i64 (h x hx)
theorem i64r_set {l : List Int} (h : i64r l) {y : Int} (hy : -9223372036854775808 ≤ y ∧ y ≤ 9223372036854775807) (j : Nat) : i64r (l.set j y) := fun x hx => by
  rcases List.mem_or_eq_of_mem_set hx with h1 | h1
  · exact h x h1
  · subst h1; exact hy
theorem map_one (l : List Int) : ∀ u ∈ l.map (Value.int .i64), u.oneCell' = true := by
  intro u hu
  obtain ⟨x, _, rfl⟩ := List.mem_map.1 hu
  rfl

set_option maxHeartbeats 1600000 in
theorem deltaSmall_law (A0 A1 A2 : Option Addr) (n0 c0 n1 c1 n2 c2 : Nat) (la lt lv : List Int) (w : World) (r0 : Rd w w.heap.size 1 A0 n0 (la.map (Value.int .i64))) (e0 : n0 = la.length) (z0 : n0 * 8 ≤ 140737488351232) (g0 : ∀ i ∈ la, (Lit.int .i64 i).wf = true)
    (r1 : Rd w w.heap.size 1 A1 n1 (lt.map (Value.int .i64))) (e1 : n1 = lt.length) (z1 : n1 ≤ 9223372036854775807) (g1 : ∀ i ∈ lt, (Lit.int .i64 i).wf = true)
    (r2 : Rd w w.heap.size 1 A2 n2 (lv.map (Value.int .i64))) (e2 : n2 = lv.length) (z2 : n2 ≤ 9223372036854775807) (g2 : ∀ i ∈ lv, (Lit.int .i64 i).wf = true) :
    Calls Try.prog 13 #[.slice A0 n0 c0, .slice A1 n1 c1, .slice A2 n2 c2] w fun e w' => e = .returned (.bool true) ∧ Below w.heap.size w w' := by
  have hcl := cloneInts_any A0 n0 c0 w.heap.size (la.map (Value.int .i64)) w r0 (map_one la) (Nat.le_refl _) (by omega)
  have HCL := Lib.hid hcl
  have HR0 := Lib.hid r0
  have HR1 := Lib.hid r1
  have HR2 := Lib.hid r2
  have HE0 := Lib.hid e0
  have HE1 := Lib.hid e1
  have HE2 := Lib.hid e2
  have HG0 := Lib.hid (wf_i64r g0)
  have HG1 := Lib.hid g1
  have HG2 := Lib.hid (wf_i64r g2)
  clear hcl r0 r1 r2 e0 e1 e2 g0 g1 g2
  obtain ⟨B0, hB0⟩ : ∃ B0, B0 = w.heap.size := ⟨_, rfl⟩
  have HB0 := Lib.hid hB0
  clear hB0
  go_enter Try.func13, Try.ntmps13
  go_wp2_with fail
  refine HCL.out.mono ?_
  clear HCL
  rintro e w1 ⟨AB, cB, rfl, hob, hb1⟩
  rw [← HB0.out] at hob hb1
  go_wp2_with fail
  go_loopw [18] (fun i wr => ∃ (k : Nat) (L : List Int), k ≤ n1 ∧ i = .int .i64 k ∧ Hid (L.length = n0 ∧ i64r L ∧ ndR la L 0 ≤ k) ∧ wr.ownsRow B0 3 1 (.slice AB n0 cB) n0 (L.map (Value.int .i64)) ∧ Below B0 w wr) (fun i _ => n1 - (intOf i).toNat)
  case atStart => exact ⟨0, la, Nat.zero_le _, rfl, Lib.hid ⟨HE0.out.symm, HG0.out, by rw [ndR_self la la 0 rfl]; exact Nat.le_refl _⟩, hob, hb1⟩
  case round =>
    obtain ⟨k, L, hk, rfl, HL, ho, hb⟩ := hrel
    have hsz : B0 ≤ wr.heap.size := by have := hb.size; have := HB0.out; omega
    clear hob hb1
    by_cases hlt : k < n1
    · obtain ⟨x, hx⟩ : ∃ x, lt[k]? = some x := ⟨_, List.getElem?_eq_getElem (by have := HE1.out; omega)⟩
      have HXW := Lib.hid (HG1.out x (List.mem_of_getElem? hx))
      have hrd1 := HR1.out
      rw [← HB0.out] at hrd1
      obtain ⟨xb, xo, rfl, _, hcx⟩ := (hrd1.below hb).at1 hlt (u := .int .i64 x) (by rw [List.getElem?_map, hx]; rfl)
      clear hx hrd1
      by_cases h0 : 0 < n0
      · by_cases hk2 : k < n2
        · obtain ⟨y, hy⟩ : ∃ y, lv[k]? = some y := ⟨_, List.getElem?_eq_getElem (by have := HE2.out; omega)⟩
          have HYR := Lib.hid (HG2.out y (List.mem_of_getElem? hy))
          have hrd2 := HR2.out
          rw [← HB0.out] at hrd2
          obtain ⟨yb, yo, rfl, hyb, hcy⟩ := (hrd2.below hb).at1 hk2 (u := .int .i64 y) (by rw [List.getElem?_map, hy]; rfl)
          obtain ⟨j, hj, hjn⟩ : ∃ j : Nat, x % (n0 : Int) = (j : Int) ∧ j < n0 := by
            have h1 := Int.emod_nonneg x (show (n0 : Int) ≠ 0 by omega)
            have h2 := Int.emod_lt_of_pos x (show (0 : Int) < n0 by omega)
            exact ⟨(x % (n0 : Int)).toNat, by omega, by omega⟩
          have HBL : Hid (∀ wx, Calls Try.prog 35 #[.int .i64 x, .int .i64 n0] wx fun e w' => e = .returned (.int .i64 (j : Int)) ∧ wx = w') := Lib.hid fun wx => by
            have := below_any x n0 wx HXW.out (by omega) (by omega)
            rw [hj] at this; exact this
          obtain ⟨g, cB', hg, _⟩ := ho.form h0
          simp only [Value.slice.injEq, true_and] at hg
          obtain ⟨rfl, rfl⟩ := hg
          have hfz := ho.frozenAt j
          obtain ⟨z, hz⟩ : ∃ z, L[j]? = some z := ⟨_, List.getElem?_eq_getElem (by have := HL.out.1; omega)⟩
          have hcz : wr.cell? ⟨g, j, none⟩ = some (.int .i64 z) := by rw [ho.cellAt j (by omega), List.getElem?_map, hz]; rfl
          have q1 : (0 : Int) ≤ j := by omega
          have q2 : (j : Int) < n0 := by omega
          have q3 : (0 : Int) ≤ k := by omega
          have q4 : (k : Int) < n2 := by omega
          have q5 : (k : Int) < n1 := by omega
          have hst := ho.stored j (.int .i64 y)
          have hgr := hst.2
          have hb2 := hb.grown hgr (by omega) (fun q hq => by cases hq; exact (ho.lt g rfl).1)
          obtain ⟨yb', yo', eA, _, f1⟩ := (hrd2.below hb2.drew).at1 hk2 (u := .int .i64 y) (by rw [List.getElem?_map, hy]; rfl)
          obtain ⟨rfl, rfl⟩ : yb = yb' ∧ yo = yo' := by cases eA; exact ⟨rfl, rfl⟩
          clear hy hrd2 hj hz eA
          go_wp2_with fail
          go_region_held3 (fun w' => w'.cell? ⟨yb, yo + k, none⟩ = some (.int .i64 y)) (first | go_keep | exact f1) (first | (go_at_call 35; (with_reducible refine (HBL.out _).mono ?_); rintro e w2 ⟨rfl, rfl⟩))
          have ho2 : (wr.setCell ⟨g, j, none⟩ (.int .i64 y)).drew.ownsRow B0 3 1 (.slice (some ⟨g, 0, none⟩) n0 cB) n0 ((L.set j y).map (Value.int .i64)) := by
            have h := hst.1.drew
            rwa [← List.map_set] at h
          have hb3 := hb2.drew
          clear hst hgr f1 hb2 hcx hcy hfz hcz ho hb
          go_wp2_with fail
          go_roundw
          case rel => exact ⟨k + 1, L.set j y, by omega, by go_num, Lib.hid ⟨by rw [List.length_set]; exact HL.out.1, i64r_set HL.out.2.1 HYR.out j, by have := HL.out.2.2; have := ndR_set la y L 0 j; omega⟩, ho2, hb3⟩
          case measure => simp [intOf]; omega
        · go_wp2_with fail
          go_roundw
          case rel => exact ⟨k + 1, L, by omega, by go_num, Lib.hid ⟨HL.out.1, HL.out.2.1, by have := HL.out.2.2; omega⟩, ho, hb⟩
          case measure => simp [intOf]; omega
      · go_wp2_with fail
        go_roundw
        case rel => exact ⟨k + 1, L, by omega, by go_num, Lib.hid ⟨HL.out.1, HL.out.2.1, by have := HL.out.2.2; omega⟩, ho, hb⟩
        case measure => simp [intOf]; omega
    · obtain rfl : k = n1 := by omega
      have hr0 := HR0.out
      rw [← HB0.out] at hr0
      have hints := ints_any A0 AB n0 c0 n0 cB wr.heap.size la L wr ((hr0.below hb).more hsz) (Rd.of_own ho) HE0.out HL.out.1.symm (by omega) HG0.out HL.out.2.1 (Nat.le_refl _)
      have HI := Lib.hid hints
      clear hints hr0
      have hcase : 1000 < n0 ∨ (n0 ≤ 1000 ∧ 100 < k) ∨ (n0 ≤ 1000 ∧ k ≤ 100) := by omega
      rcases hcase with t1 | ⟨t1, t2⟩ | ⟨t1, t2⟩
      · go_wp2_with fail
        refine HI.out.mono ?_
        have HX : ∀ e w', IntsPost wr la L e w' → ∃ A m c er, e = .returned (.tuple #[.slice A m c, .int .i64 er]) ∧ Below wr.heap.size wr w' := fun e w' h => by
          rcases h with ⟨_, A, c, h1, _, h2⟩ | ⟨_, A, c, h1, _, h2⟩
          · exact ⟨_, _, _, _, h1, h2⟩
          · exact ⟨_, _, _, _, h1, h2⟩
        intro e w3 h
        obtain ⟨A3, m3, c3, er, rfl, hb3⟩ := HX e w3 h
        have hbb3 := hb.trans (hb3.mono hsz)
        have hs3 := hbb3.size
        clear h HX ho hb hb3
        go_wp2_with fail
        refine (differs_any _).mono ?_
        rintro e w4 ⟨rfl, hb4⟩
        have hbb4 := hbb3.trans (hb4.mono (by have := HB0.out; omega))
        have hs4 := hbb4.size
        clear hbb3 hb4
        go_wp2_with fail
        refine (differs_any _).mono ?_
        rintro e w5 ⟨rfl, hb5⟩
        have hbb5 := hbb4.trans (hb5.mono (by have := HB0.out; omega))
        go_wp2_with fail
        go_ret
        exact ⟨rfl, by rw [← HB0.out]; exact hbb5⟩
      · go_wp2_with fail
        refine HI.out.mono ?_
        have HX : ∀ e w', IntsPost wr la L e w' → ∃ A m c er, e = .returned (.tuple #[.slice A m c, .int .i64 er]) ∧ Below wr.heap.size wr w' := fun e w' h => by
          rcases h with ⟨_, A, c, h1, _, h2⟩ | ⟨_, A, c, h1, _, h2⟩
          · exact ⟨_, _, _, _, h1, h2⟩
          · exact ⟨_, _, _, _, h1, h2⟩
        intro e w3 h
        obtain ⟨A3, m3, c3, er, rfl, hb3⟩ := HX e w3 h
        have hbb3 := hb.trans (hb3.mono hsz)
        have hs3 := hbb3.size
        clear h HX ho hb hb3
        go_wp2_with fail
        refine (differs_any _).mono ?_
        rintro e w4 ⟨rfl, hb4⟩
        have hbb4 := hbb3.trans (hb4.mono (by have := HB0.out; omega))
        have hs4 := hbb4.size
        clear hbb3 hb4
        go_wp2_with fail
        refine (differs_any _).mono ?_
        rintro e w5 ⟨rfl, hb5⟩
        have hbb5 := hbb4.trans (hb5.mono (by have := HB0.out; omega))
        go_wp2_with fail
        go_ret
        exact ⟨rfl, by rw [← HB0.out]; exact hbb5⟩
      · have hsm := small_ok (a := la) (b := L) (m := k) (by rw [HL.out.1]; exact HE0.out) (by rw [← HE0.out]; exact t1) HL.out.2.2 t2
        have hback := back_ok (a := la) HL.out.2.1 hsm.1
        have hby := (packB_lt (encB la L)).1
        have HSM := Lib.hid hsm
        obtain ⟨D, hD⟩ : ∃ D, D = packB (encB la L) := ⟨_, rfl⟩
        have hDl : D.length ≤ 28 + 26 * k := by rw [hD]; exact hsm.2
        rw [← hD] at hback hby
        have HBK := Lib.hid hback
        have HBY := Lib.hid hby
        have HD := Lib.hid hD
        clear hsm hback hby hD
        go_wp2_with fail
        refine HI.out.mono ?_
        rintro e w3 (⟨_, A3, c3, rfl, ho3, hb3⟩ | ⟨hno, _⟩)
        rotate_left
        · exact absurd HSM.out.1 hno
        rw [← HD.out] at ho3 ⊢
        obtain ⟨m3, hm3⟩ : ∃ m3, m3 = D.length := ⟨_, rfl⟩
        rw [← hm3] at ho3 hDl ⊢
        have HM3 := Lib.hid hm3
        have hs3 := hb3.size
        have hob3 := own_rd ho hb3
        have hbb3 := hb.trans (hb3.mono hsz)
        clear hb3 hm3 ho hb HI
        go_wp2_with fail
        refine (differs_any _).mono ?_
        rintro e w4 ⟨rfl, hb4⟩
        have hs4 := hb4.size
        have hob4 := (hob3.more hs3).below hb4
        have hod4 := own_rd ho3 hb4
        have hbb4 := hbb3.trans (hb4.mono (by omega))
        have hr0 := HR0.out
        rw [← HB0.out] at hr0
        have hbk := back_any A0 A3 n0 c0 m3 c3 w3.heap.size la D w4 ((hr0.below hbb4).more (by omega)) hod4 HE0.out HM3.out (by omega) (by omega) HG0.out HBY.out hs4
        have HK := Lib.hid hbk
        clear hbk hr0 hod4 hob3 hbb3 hb4
        go_wp2_with fail
        refine HK.out.mono ?_
        intro e w5 h5
        unfold BackPost at h5
        rw [HBK.out] at h5
        obtain ⟨A5, c5, rfl, ho5, hb5⟩ := h5
        have hs5 := hb5.size
        have hbb5 := hbb4.trans (hb5.mono (by omega))
        have hlen : L.length = n0 := HL.out.1
        simp only [hlen] at ho5 ⊢
        have heq := equalInts_any A5 AB n0 c5 n0 cB w5.heap.size L L w5 hlen.symm hlen.symm (by omega) (Rd.of_own ho5) (((hob4.below (hb5.mono hs4)).more (by omega)))
        simp only [decide_true] at heq
        have HEQ := Lib.hid heq
        have q1 : IntKind.i64.wrap (26 * (k : Int)) = 26 * k := by rw [IntKind.wrap_i64]; omega
        have q2 : IntKind.i64.wrap (28 + 26 * (k : Int)) = 28 + 26 * k := by rw [IntKind.wrap_i64]; omega
        have q3 : (m3 : Int) ≤ 28 + 26 * k := by omega
        clear heq hob4 ho5 hb5 hbb4 HK hlen
        go_wp2_with fail
        refine HEQ.out.mono ?_
        rintro e w6 ⟨rfl, nq, rfl⟩
        go_wp2_with fail
        go_ret
        exact ⟨rfl, by rw [← HB0.out]; exact bel_drewN hbb5 _⟩
end Go.Proofs.Ytlgcdcjfobfoiaa
