/-
  The walk of DeltaBack. Conditions: what came in can be read; lists of at most 1048576 numbers and bytes.
-/
import Derived.Test.YtlgcdcjfobfoiaaDo
namespace Go.Proofs.Ytlgcdcjfobfoiaa
open Go.RowKit
set_option maxRecDepth 100000

theorem xor8_rng (a b : Int) : ∃ X : Nat, Go.bits .xor .u8 a b = (X : Int) ∧ X < 256 := by
  have h : 0 ≤ Go.bits .xor .u8 a b ∧ Go.bits .xor .u8 a b < 256 := by
    show 0 ≤ IntKind.u8.wrap _ ∧ IntKind.u8.wrap _ < _
    rw [IntKind.wrap_u8]; omega
  exact ⟨(Go.bits .xor .u8 a b).toNat, by omega, by omega⟩
theorem set_lt {l : List Nat} (h : ∀ b ∈ l, b < 256) {X : Nat} (hX : X < 256) (j : Nat) : ∀ b ∈ l.set j X, b < 256 := fun b hb => by
  rcases List.mem_or_eq_of_mem_set hb with h1 | h1
  · exact h b h1
  · subst h1; exact hX
theorem take_lt {l : List Nat} (h : ∀ b ∈ l, b < 256) (j : Nat) : ∀ b ∈ l.take j, b < 256 := fun b hb => h b (List.mem_of_mem_take hb)

set_option maxHeartbeats 1600000 in
theorem deltaBack_law (A0 A1 A2 : Option Addr) (n0 c0 n1 c1 n2 c2 : Nat) (la lb lr : List Int) (turn : Int) (w : World) (r0 : Rd w w.heap.size 1 A0 n0 (la.map (Value.int .i64))) (e0 : n0 = la.length) (z0 : n0 ≤ 1048576) (g0 : ∀ i ∈ la, (Lit.int .i64 i).wf = true)
    (r1 : Rd w w.heap.size 1 A1 n1 (lb.map (Value.int .i64))) (e1 : n1 = lb.length) (z1 : n1 ≤ 1048576) (g1 : ∀ i ∈ lb, (Lit.int .i64 i).wf = true)
    (r2 : Rd w w.heap.size 1 A2 n2 (lr.map (Value.int .u8))) (e2 : n2 = lr.length) (z2 : n2 ≤ 1048576) (g2 : ∀ i ∈ lr, (Lit.int .u8 i).wf = true) (ht : (Lit.int .i64 turn).wf = true) :
    Calls Try.prog 14 #[.slice A0 n0 c0, .slice A1 n1 c1, .slice A2 n2 c2, .int .i64 turn] w fun e w' => e = .returned (.bool true) ∧ Below w.heap.size w w' := by
  have hA : i64r la := fun x hx => bounds_i64 (g0 x hx)
  have hB : i64r lb := fun x hx => bounds_i64 (g1 x hx)
  have htb := bounds_i64 ht
  obtain ⟨hbv, hb256⟩ := bytes_of_ints g2
  rw [hbv] at r2
  have e2' : n2 = (lr.map Int.toNat).length := by simpa using e2
  generalize lr.map Int.toNat = LR at *
  have HR0 := Lib.hid r0
  have HR1 := Lib.hid r1
  have HR2 := Lib.hid r2
  have HE0 := Lib.hid e0
  have HE1 := Lib.hid e1
  have HE2 := Lib.hid e2'
  have HA := Lib.hid hA
  have HB := Lib.hid hB
  have HB256 := Lib.hid hb256
  have HD := Lib.hid (refDiff_any A0 A1 n0 c0 n1 c1 w.heap.size la lb w r0 r1 e0 e1 ⟨z0, z1⟩ hA hB (Nat.le_refl _))
  have hby := (packB_lt (encB la lb)).1
  have HBY := Lib.hid hby
  clear r0 r1 r2 e0 e1 e2 e2' g0 g1 g2 hA hB hby hbv hb256 ht
  by_cases hok : encOk la lb
  rotate_left
  · have HDEC : Hid (decide (encOk la lb) = false) := Lib.hid (decide_eq_false hok)
    clear hok
    go_enter Try.func14, Try.ntmps14
    go_wp2_with fail
    refine HD.out.mono ?_
    rintro e w1 ⟨A3, c3, rfl, ho3, hb1⟩
    rw [HDEC.out]
    have hs1 := hb1.size
    clear ho3
    go_wp2_with fail
    refine (differsL_any _).mono ?_
    rintro e w2 ⟨rfl, hb2⟩
    have hbb2 := hb1.trans (hb2.mono hs1)
    go_wp2_with fail
    go_ret
    exact ⟨rfl, hbb2⟩
  have HDEC : Hid (decide (encOk la lb) = true) := Lib.hid (decide_eq_true hok)
  have HL : Hid (la.length ≤ 65536) := Lib.hid hok.1
  have HBO := Lib.hid (back_ok HB.out hok)
  obtain ⟨D, hDD⟩ : ∃ D, D = packB (encB la lb) := ⟨_, rfl⟩
  have hDl : 0 < D.length ∧ D.length ≤ 65537 := by
    have h1 := hok.2.2
    have h2 := packB_length (encB la lb)
    have h3 : 128 ≤ (encB la lb).length := by
      rw [encB_R, encH]
      simp only [List.length_append, bitsOf_length]; omega
    rw [hDD]; omega
  have HDD := Lib.hid hDD
  have hHBY := HBY.out
  have hHBO := HBO.out
  rw [← hDD] at hHBY hHBO
  have HY := Lib.hid hHBY
  have HO := Lib.hid hHBO
  obtain ⟨m, hm⟩ : ∃ m, m = D.length := ⟨_, rfl⟩
  rw [← hm] at hDl
  have HM := Lib.hid hm
  obtain ⟨hm0, hm1⟩ := hDl
  clear hok hDD hHBY hHBO hm HBY HBO
  go_enter Try.func14, Try.ntmps14
  go_wp2_with fail
  refine HD.out.mono ?_
  clear HD
  rintro e w1 ⟨A3, c3, rfl, ho3, hb1⟩
  rw [HDEC.out]
  rw [← HDD.out, ← HM.out] at ho3 ⊢
  have hs1 := hb1.size
  go_wp2_with fail
  refine (differsL_any _).mono ?_
  rintro e w2 ⟨rfl, hb2⟩
  have hr2 := own_rd ho3 hb2
  have hs12 := hb2.size
  have hbb2 := hb1.trans (hb2.mono hs1)
  have hs2 := hbb2.size
  have hbk := back_any A0 A3 n0 c0 m c3 w2.heap.size la D w2 ((HR0.out.below hbb2).more hs2) (hr2.more hs12) HE0.out HM.out (by omega) (by omega) HA.out HY.out (Nat.le_refl _)
  unfold BackPost at hbk
  rw [HO.out] at hbk
  have HK := Lib.hid hbk
  clear hbk ho3 hb1 hb2
  go_wp2_with fail
  refine HK.out.mono ?_
  clear HK
  rintro e w3 ⟨A4, c4, rfl, ho4, hb3⟩
  have hr3 := (hr2.below (hb3.mono hs12)).more (Nat.le_trans hs12 hb3.size)
  have hbb3 := hbb2.trans (hb3.mono hs2)
  have hs3 := hbb3.size
  simp only at ho4 ⊢
  rw [← HE1.out] at ho4 ⊢
  have heq := equalInts_any A4 A1 n1 c4 n1 c1 w3.heap.size lb lb w3 HE1.out HE1.out (by omega) (Rd.of_own ho4) ((HR1.out.below hbb3).more hs3)
  simp only [decide_true] at heq
  have HEQ := Lib.hid heq
  clear heq ho4 hb3 hr2 hs12 hbb2
  go_wp2_with fail
  refine HEQ.out.mono ?_
  clear HEQ
  rintro e w4' ⟨rfl, nq, hw4⟩
  have hbb4 : Below w.heap.size w w4' := by rw [← hw4]; exact bel_drewN hbb3 nq
  have hr4 : Rd w4' w4'.heap.size 1 A3 m (bytesV D) := by rw [← hw4]; exact hr3.below (bel_drewN (Below.refl _ _) nq)
  clear hw4 hr3 hbb3
  have hs4 := hbb4.size
  by_cases h2 : 0 < n2
  · have hr9 : Rd w4' w4'.heap.size 1 A2 n2 (bytesV LR) := (HR2.out.below hbb4).more hs4
    have hn9 := HE2.out
    have hR9 := HB256.out
    clear hr4
    have hsz9 := hbb4.size
    obtain ⟨⟨err, L⟩, hel⟩ : ∃ x, x = backD la LR := ⟨_, rfl⟩
    have hsays := backD_says (d := LR) HA.out HL.out
    have hbk := back_any A0 A2 n0 c0 n2 c2 w4'.heap.size la LR w4' ((HR0.out.below hbb4).more hsz9) hr9 HE0.out hn9 (by omega) (by omega) HA.out hR9 (Nat.le_refl _)
    unfold BackPost at hbk
    rw [← hel] at hbk hsays
    simp only at hbk hsays
    have HBK := Lib.hid hbk
    have HR9 := Lib.hid hr9
    have HN9 := Lib.hid hn9
    have HR256 := Lib.hid hR9
    have HBT := Lib.hid hbb4
    clear hbk hel hr9 hn9 hR9
    rcases hsays with ⟨rfl, h2, h3, h4⟩ | ⟨rfl, h2⟩
    · have HOK := Lib.hid h2
      have HPK := Lib.hid h3
      have HI := Lib.hid h4
      clear h2 h3 h4
      go_wp2_with fail
      refine HBK.out.mono ?_
      rintro e w10 ⟨A10, c10, rfl, ho10, hb10⟩
      have hs10 := hb10.size
      have hbb10 := HBT.out.trans (hb10.mono hsz9)
      have hL65 := HOK.out.2.1
      have hdf := refDiff_any A0 A10 n0 c0 L.length c10 w10.heap.size la L w10 ((HR0.out.below hbb10).more hbb10.size) (Rd.of_own ho10) HE0.out rfl ⟨by omega, by omega⟩ HA.out HI.out (Nat.le_refl _)
      unfold DiffPost at hdf
      rw [HPK.out, show decide (encOk la L) = true from decide_eq_true HOK.out, ← HN9.out] at hdf
      have HDF := Lib.hid hdf
      have hr10 := (HR9.out.below hb10).more hs10
      have hss10 := hbb10.size
      clear hdf ho10 hb10
      go_wp2_with fail
      refine HDF.out.mono ?_
      rintro e w11 ⟨A11, c11, rfl, ho11, hb11⟩
      have hr11 := (hr10.below hb11).more hb11.size
      have hbb11 := hbb10.trans (hb11.mono hss10)
      have heq := bytesEqual_any A11 A2 n2 c11 n2 c2 w11.heap.size LR LR w11 HR256.out HR256.out (Rd.of_own ho11) hr11
      simp only [decide_true] at heq
      have HEQ := Lib.hid heq
      clear heq ho11 hb11 hr11 hr10
      go_wp2_with fail
      refine HEQ.out.mono ?_
      rintro e w12 ⟨rfl, rfl⟩
      go_wp2_with fail
      go_ret
      exact ⟨rfl, hbb11⟩
    · have harms : (err = 14 ∧ n2 < 8) ∨ (err = 14 ∧ 8 ≤ n2) ∨ (err = 13 ∧ 8 ≤ n2) ∨ (err = 3 ∧ 8 ≤ n2) ∨ (err = 2 ∧ 8 ≤ n2) := by
        have := HN9.out
        omega
      clear h2
      rcases harms with ⟨rfl, h8⟩ | ⟨rfl, h8⟩ | ⟨rfl, h8⟩ | ⟨rfl, h8⟩ | ⟨rfl, h8⟩
      all_goals
        go_wp2_with fail
        refine HBK.out.mono ?_
        rintro e w10 ⟨A10, c10, rfl, ho10, hb10⟩
        have hbb10 := HBT.out.trans (hb10.mono hsz9)
        have hb11 := hbb10.alloc hbb10.size (.cells #[.int .i64 14, .int .i64 13, .int .i64 3, .int .i64 2] 25)
        have HB11 := Lib.hid hb11
        have HC := Lib.hid (fun err he => containsErr_any w10.heap.size err (w10.alloc (.cells #[.int .i64 14, .int .i64 13, .int .i64 3, .int .i64 2] 25)) (Bk.new _ _ _) he)
        clear ho10 hb10 hbb10 hb11
        go_wp2_with fail
        refine (HC.out _ (by omega)).mono ?_
        rintro e w12 ⟨rfl, rfl⟩
        go_wp2_with fail
        go_ret
        exact ⟨rfl, HB11.out⟩
  · obtain rfl : n2 = 0 := by omega
    have hcl := cloneBytes_any A3 m c3 w4'.heap.size (bytesV D) w4' hr4 (bytesV_one D) (Nat.le_refl _) (by omega)
    have HCL := Lib.hid hcl
    clear hcl hr4 h2
    obtain ⟨M, hM, hM1⟩ := and_mask2 turn 65535 16 rfl (by omega)
    obtain ⟨K, hK, hK1⟩ := and_mask2 (turn / 65536) 7 3 rfl (by omega)
    obtain ⟨N, hN, hN1⟩ := and_mask2 (turn / 1048576) 1 1 rfl (by omega)
    replace hM : Go.bits .and .i64 turn 65535 = (M : Int) := hM
    replace hK : Go.bits .and .i64 (turn / 65536) 7 = (K : Int) := hK
    replace hN : Go.bits .and .i64 (turn / 1048576) 1 = (N : Int) := hN
    obtain ⟨j, hj⟩ : ∃ j, j = M % m := ⟨_, rfl⟩
    have hjm : j < m := by rw [hj]; exact Nat.mod_lt _ hm0
    have hj1 : (M : Int).tmod (m : Int) = (j : Int) := by rw [hj]; norm_cast
    have hj2 : (M : Int) % (m : Int) = (j : Int) := by rw [hj]; norm_cast
    clear hj
    go_wp2_with fail
    refine HCL.out.mono ?_
    clear HCL
    rintro e w5 ⟨A5, c5, rfl, ho5, hb5⟩
    have hbb5 := hbb4.trans (hb5.mono hs4)
    have hs5 := hbb5.size
    obtain ⟨g, cB', hg, _⟩ := ho5.form hm0
    simp only [Value.slice.injEq, true_and] at hg
    obtain ⟨rfl, rfl⟩ := hg
    obtain ⟨old, hold⟩ : ∃ old, old = D.getD j 0 := ⟨_, rfl⟩
    have q2 : w5.cell? ⟨g, j, none⟩ = some (.int .u8 old) := by
      rw [ho5.cellAt _ (by omega), bytesV_get _ _ (by have := HM.out; omega), hold]
    have q3 := ho5.frozenAt j
    have q4 : (j : Int) < m := by omega
    have q5 : (0 : Int) ≤ j := by omega
    clear hold
    go_wp2_with fail
    go_region
    have hcap := own_cap ho5
    have hcap1 : j ≤ c5 := by omega
    have hcap2 : (j : Int) ≤ c5 := by omega
    obtain ⟨X, hX, hX1⟩ := xor8_rng (old : Int) (2 ^ K % 256)
    rw [hX]
    have hst := ho5.stored j (.int .u8 (X : Int))
    have hbb6 := (hbb5.grown hst.2 hs5 (fun q hq => by cases hq; have := (ho5.lt g rfl).1; omega)).drew
    have hst1 := hst.1.drew
    rw [bytesV_set] at hst1
    have hr6 := Rd.of_own hst1
    have hm6 : m = (D.set j X).length := by rw [List.length_set]; exact HM.out
    have hR6 := set_lt HY.out hX1 j
    generalize (w5.setCell ⟨g, j, none⟩ (.int .u8 (X : Int))).drew = w6 at hr6 hbb6 ⊢
    generalize D.set j X = R at hr6 hm6 hR6
    clear hst hst1 hX hX1 hbb5 hs5 ho5 q2 q3 hb5 HO HDD hcap
    rcases (show N = 0 ∨ N = 1 by omega) with rfl | rfl
    · clear hj1 hj2 hjm q4 q5
      have hsz9 := hbb6.size
      obtain ⟨⟨err, L⟩, hel⟩ : ∃ x, x = backD la R := ⟨_, rfl⟩
      have hsays := backD_says (d := R) HA.out HL.out
      have hbk := back_any A0 (some ⟨g, 0, none⟩) n0 c0 m c5 w6.heap.size la R w6 ((HR0.out.below hbb6).more hsz9) hr6 HE0.out hm6 (by omega) (by omega) HA.out hR6 (Nat.le_refl _)
      unfold BackPost at hbk
      rw [← hel] at hbk hsays
      simp only at hbk hsays
      have HBK := Lib.hid hbk
      have HR9 := Lib.hid hr6
      have HN9 := Lib.hid hm6
      have HR256 := Lib.hid hR6
      have HBT := Lib.hid hbb6
      clear hbk hel hr6 hm6 hR6
      rcases hsays with ⟨rfl, h2, h3, h4⟩ | ⟨rfl, h2⟩
      · have HOK := Lib.hid h2
        have HPK := Lib.hid h3
        have HI := Lib.hid h4
        clear h2 h3 h4
        go_wp2_with fail
        refine HBK.out.mono ?_
        rintro e w10 ⟨A10, c10, rfl, ho10, hb10⟩
        have hs10 := hb10.size
        have hbb10 := HBT.out.trans (hb10.mono hsz9)
        have hL65 := HOK.out.2.1
        have hdf := refDiff_any A0 A10 n0 c0 L.length c10 w10.heap.size la L w10 ((HR0.out.below hbb10).more hbb10.size) (Rd.of_own ho10) HE0.out rfl ⟨by omega, by omega⟩ HA.out HI.out (Nat.le_refl _)
        unfold DiffPost at hdf
        rw [HPK.out, show decide (encOk la L) = true from decide_eq_true HOK.out, ← HN9.out] at hdf
        have HDF := Lib.hid hdf
        have hr10 := (HR9.out.below hb10).more hs10
        have hss10 := hbb10.size
        clear hdf ho10 hb10
        go_wp2_with fail
        refine HDF.out.mono ?_
        rintro e w11 ⟨A11, c11, rfl, ho11, hb11⟩
        have hr11 := (hr10.below hb11).more hb11.size
        have hbb11 := hbb10.trans (hb11.mono hss10)
        have heq := bytesEqual_any A11 (some ⟨g, 0, none⟩) m c11 m c5 w11.heap.size R R w11 HR256.out HR256.out (Rd.of_own ho11) hr11
        simp only [decide_true] at heq
        have HEQ := Lib.hid heq
        clear heq ho11 hb11 hr11 hr10
        go_wp2_with fail
        refine HEQ.out.mono ?_
        rintro e w12 ⟨rfl, rfl⟩
        go_wp2_with fail
        go_ret
        exact ⟨rfl, hbb11⟩
      · have harms : (err = 14 ∧ m < 8) ∨ (err = 14 ∧ 8 ≤ m) ∨ (err = 13 ∧ 8 ≤ m) ∨ (err = 3 ∧ 8 ≤ m) ∨ (err = 2 ∧ 8 ≤ m) := by
          have := HN9.out
          omega
        clear h2
        rcases harms with ⟨rfl, h8⟩ | ⟨rfl, h8⟩ | ⟨rfl, h8⟩ | ⟨rfl, h8⟩ | ⟨rfl, h8⟩
        all_goals
          go_wp2_with fail
          refine HBK.out.mono ?_
          rintro e w10 ⟨A10, c10, rfl, ho10, hb10⟩
          have hbb10 := HBT.out.trans (hb10.mono hsz9)
          have hb11 := hbb10.alloc hbb10.size (.cells #[.int .i64 14, .int .i64 13, .int .i64 3, .int .i64 2] 25)
          have HB11 := Lib.hid hb11
          have HC := Lib.hid (fun err he => containsErr_any w10.heap.size err (w10.alloc (.cells #[.int .i64 14, .int .i64 13, .int .i64 3, .int .i64 2] 25)) (Bk.new _ _ _) he)
          clear ho10 hb10 hbb10 hb11
          go_wp2_with fail
          refine (HC.out _ (by omega)).mono ?_
          rintro e w12 ⟨rfl, rfl⟩
          go_wp2_with fail
          go_ret
          exact ⟨rfl, HB11.out⟩
    · have hr7 := Rd.take1 hr6 (Nat.le_of_lt hjm)
      have hn7 : j = (R.take j).length := by rw [List.length_take]; omega
      have hR7 := take_lt hR6 j
      generalize R.take j = R2 at hr7 hn7 hR7
      clear hr6 hm6 hR6
      have hsz9 := hbb6.size
      obtain ⟨⟨err, L⟩, hel⟩ : ∃ x, x = backD la R2 := ⟨_, rfl⟩
      have hsays := backD_says (d := R2) HA.out HL.out
      have hbk := back_any A0 (some ⟨g, 0, none⟩) n0 c0 j c5 w6.heap.size la R2 w6 ((HR0.out.below hbb6).more hsz9) hr7 HE0.out hn7 (by omega) (by omega) HA.out hR7 (Nat.le_refl _)
      unfold BackPost at hbk
      rw [← hel] at hbk hsays
      simp only at hbk hsays
      have HBK := Lib.hid hbk
      have HR9 := Lib.hid hr7
      have HN9 := Lib.hid hn7
      have HR256 := Lib.hid hR7
      have HBT := Lib.hid hbb6
      clear hbk hel hr7 hn7 hR7
      rcases hsays with ⟨rfl, h2, h3, h4⟩ | ⟨rfl, h2⟩
      · have HOK := Lib.hid h2
        have HPK := Lib.hid h3
        have HI := Lib.hid h4
        clear h2 h3 h4
        go_wp2_with fail
        refine HBK.out.mono ?_
        rintro e w10 ⟨A10, c10, rfl, ho10, hb10⟩
        have hs10 := hb10.size
        have hbb10 := HBT.out.trans (hb10.mono hsz9)
        have hL65 := HOK.out.2.1
        have hdf := refDiff_any A0 A10 n0 c0 L.length c10 w10.heap.size la L w10 ((HR0.out.below hbb10).more hbb10.size) (Rd.of_own ho10) HE0.out rfl ⟨by omega, by omega⟩ HA.out HI.out (Nat.le_refl _)
        unfold DiffPost at hdf
        rw [HPK.out, show decide (encOk la L) = true from decide_eq_true HOK.out, ← HN9.out] at hdf
        have HDF := Lib.hid hdf
        have hr10 := (HR9.out.below hb10).more hs10
        have hss10 := hbb10.size
        clear hdf ho10 hb10
        go_wp2_with fail
        refine HDF.out.mono ?_
        rintro e w11 ⟨A11, c11, rfl, ho11, hb11⟩
        have hr11 := (hr10.below hb11).more hb11.size
        have hbb11 := hbb10.trans (hb11.mono hss10)
        have heq := bytesEqual_any A11 (some ⟨g, 0, none⟩) j c11 j c5 w11.heap.size R2 R2 w11 HR256.out HR256.out (Rd.of_own ho11) hr11
        simp only [decide_true] at heq
        have HEQ := Lib.hid heq
        clear heq ho11 hb11 hr11 hr10
        go_wp2_with fail
        refine HEQ.out.mono ?_
        rintro e w12 ⟨rfl, rfl⟩
        go_wp2_with fail
        go_ret
        exact ⟨rfl, hbb11⟩
      · have harms : (err = 14 ∧ j < 8) ∨ (err = 14 ∧ 8 ≤ j) ∨ (err = 13 ∧ 8 ≤ j) ∨ (err = 3 ∧ 8 ≤ j) ∨ (err = 2 ∧ 8 ≤ j) := by
          have := HN9.out
          omega
        clear h2
        rcases harms with ⟨rfl, h8⟩ | ⟨rfl, h8⟩ | ⟨rfl, h8⟩ | ⟨rfl, h8⟩ | ⟨rfl, h8⟩
        all_goals
          go_wp2_with fail
          refine HBK.out.mono ?_
          rintro e w10 ⟨A10, c10, rfl, ho10, hb10⟩
          have hbb10 := HBT.out.trans (hb10.mono hsz9)
          have hb11 := hbb10.alloc hbb10.size (.cells #[.int .i64 14, .int .i64 13, .int .i64 3, .int .i64 2] 25)
          have HB11 := Lib.hid hb11
          have HC := Lib.hid (fun err he => containsErr_any w10.heap.size err (w10.alloc (.cells #[.int .i64 14, .int .i64 13, .int .i64 3, .int .i64 2] 25)) (Bk.new _ _ _) he)
          clear ho10 hb10 hbb10 hb11
          go_wp2_with fail
          refine (HC.out _ (by omega)).mono ?_
          rintro e w12 ⟨rfl, rfl⟩
          go_wp2_with fail
          go_ret
          exact ⟨rfl, HB11.out⟩
end Go.Proofs.Ytlgcdcjfobfoiaa
