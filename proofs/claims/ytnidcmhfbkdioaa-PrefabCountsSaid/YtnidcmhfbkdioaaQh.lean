/-
  The contract of Kinds; drawn templates are valid; the walk of PrefabCounts. Conditions: numbers that can be read.
-/
import Derived.Test.YtnidcmhfbkdioaaQk
import Derived.Test.YtnidcmhfbkdioaaQi
namespace Go.Proofs.Ytnidcmhfbkdioaa
open Go.RowKit
set_option maxRecDepth 100000

set_option maxHeartbeats 1600000 in
theorem kindsC_any (A : Option Addr) (n c B : Nat) (zs : List Int) (w : World) (hr : Rd w B 1 A n (zs.map (Value.int .i64))) (hn : n = zs.length) (hnc : n ≤ c) (hc : c ≤ 9223372036854775807) (hz : ∀ z ∈ zs, (Lit.int .i64 z).wf = true) (hB : B ≤ w.heap.size) :
    Calls Try.prog 22 #[.slice A n c] w fun e w' => ∃ (kA : Option Addr) (kn kc : Nat) (ks : List Kd), e = .returned (.slice kA kn kc) ∧ Hid (KsY w' 0 kA kn kc ks ∧ GenKs (ks.map Kd.p) ∧ kn = ks.length ∧ 1 ≤ kn ∧ kn ≤ 4) ∧ Below w.heap.size w w' := by
  obtain ⟨W0, hW0⟩ : ∃ W0, W0 = w.alloc (.cells #[.slice A n c] 189) := ⟨_, rfl⟩
  have hb0 : Below w.heap.size w W0 := by rw [hW0]; exact (Below.refl _ _).alloc (Nat.le_refl _) _
  have hst : StrSt W0 B w.heap.size := ⟨A, n, c, zs, by rw [hW0]; exact Bk.new _ _ _, hn, hnc, hc, hr.below (hb0.mono hB), hz⟩
  have HKD := Lib.hid (kinds_any w.heap.size B W0 hst hB)
  have HB0 := Lib.hid hb0
  clear hr hn hnc hc hz hb0 hst
  go_enter Try.func22, Try.ntmps22
  go_wp2_with fail
  rw [← hW0]
  clear hW0
  (with_reducible refine HKD.out.mono ?_)
  rintro e w1 ⟨kA, kc, ks, rfl, hki, hgk, hk1, hk4, hst1, hq1⟩
  have HK := Lib.hid (And.intro (KsI.ksY (B := 0) hki) (And.intro hgk (And.intro hk1 hk4)))
  have HB1 : Hid (Below w.heap.size w w1) := Lib.hid (HB0.out.trans (Fq.below hq1 (fun k hk => by rw [List.mem_singleton.1 hk]; exact Nat.le_refl _) HB0.out.size))
  clear hki hgk hk1 hk4 hst1 hq1 HKD
  go_wp2_with fail
  go_ret
  exact ⟨kA, _, kc, ks, rfl, Lib.hid ⟨HK.out.1, HK.out.2.1, rfl, HK.out.2.2.1, HK.out.2.2.2⟩, HB1.out⟩
theorem gen_one {ks : List Kd} (h : GenKs (ks.map Kd.p)) : ∀ k ∈ ks, oneF k.nm k.fds = 0 := fun k hk => by
  obtain ⟨j, hj⟩ := List.mem_iff_getElem?.1 hk
  exact h.one (i := j) (k := k.p) (by rw [List.getElem?_map, hj]; rfl)
/-- Drawn templates are valid ones. -/
theorem TsI.tplV {base : Nat} {w : World} {ks : List Kd} {OA : Option Addr} {i oc : Nat} {ts : List Pf} (h : TsI base w ks OA i oc ts) (hck : checkF (ks.map Kd.p) = 0) (h4 : i ≤ 4) : TplV ks ts := by
  have hlen : (ts.map Pf.p).length ≤ 4 := by rw [List.length_map, ← h.len]; exact h4
  have hl := h.len
  refine ⟨⟨fun n t hn => ⟨Nat.le_trans (h.cn t (List.mem_of_getElem? hn)) (by omega), fun cm hcm => ?_⟩, fun n t hn x hx => ?_⟩, hck, by omega, fun t ht => ?_, fun t ht => ?_, fun t ht x hx => ?_⟩
  · have htm := List.mem_of_getElem? hn
    obtain ⟨k, d, h1, h2, h3⟩ := (h.dr.comps t.p (List.mem_map_of_mem htm)).ok cm.p (List.mem_map_of_mem hcm)
    have hk := (List.getElem?_eq_some_iff.1 h2).1
    rw [List.length_map] at hk
    have h5 := holdK_iff.1 h3
    have h6 := oneF_len h5.1
    have h7 := ((h.ok t htm).cs.ok cm hcm).len
    have h8 : cm.vals.length = d.2.length := h5.2.1
    exact ⟨⟨k, h1, hk⟩, by omega⟩
  · obtain ⟨k, u, h1, h2, _⟩ := h.dr.parts n t.p (by rw [List.getElem?_map, hn]; rfl) x.p (List.mem_map_of_mem hx)
    exact ⟨k, h1, h2⟩
  · exact pcompF_ok _ none (h.dr.comps t.p (List.mem_map_of_mem ht)) (fun p hp => by cases hp)
  · have h1 := h.dr.few t.p (List.mem_map_of_mem ht)
    have h2 : (t.pts.map Pt.p).length ≤ 2 := h1
    rw [List.length_map] at h2
    have h3 := (h.ok t ht).ts.len
    omega
  · obtain ⟨n, hn⟩ := List.mem_iff_getElem?.1 ht
    obtain ⟨k, u, h1, h2, h3, h5⟩ := h.dr.parts n t.p (by rw [List.getElem?_map, hn]; rfl) x.p (List.mem_map_of_mem hx)
    have h6 : x.of_ = k := h1
    rw [h6]
    have hk := (List.getElem?_eq_some_iff.1 h3).1
    exact (h.dr.build hlen k 20 u _ (by omega) h3 h5).1
theorem subL_drop (bf : Int → Osv → Int × List Blt) {i : Nat} {ps : List (Int × Osv)} {p : Int × Osv} (h : ps[i]? = some p) : subL bf i (ps.drop i) = ((bf p.1 p.2).2.map fun b => ((i : Int) :: b.1, b.2)) ++ subL bf (i + 1) (ps.drop (i + 1)) := by
  obtain ⟨h1, h2⟩ := List.getElem?_eq_some_iff.1 h
  rw [List.drop_eq_getElem_cons h1, h2, subL]
theorem subL_congr {build build' : Int → Osv → Int × List Blt} : ∀ (ps : List (Int × Osv)) (i : Nat), (∀ p ∈ ps, build p.1 p.2 = build' p.1 p.2) → subL build i ps = subL build' i ps
  | [], _, _ => rfl
  | p :: r, i, h => by
    rw [subL, subL, h p (List.mem_cons_self ..), subL_congr r (i + 1) (fun q hq => h q (List.mem_cons_of_mem _ hq))]
/-- What a drawn template builds where nothing is replaced: itself, and behind it what its parts build. -/
theorem DrT.builds {ks : List Kp2} {T : List Tpl} (h : DrT ks T) (h4 : T.length ≤ 4) {n : Nat} {t : Tpl} (hn : T[n]? = some t) : buildF ks T 20 n [] = (0, ([], t.1) :: subL (buildF ks T 20) 0 t.2) := by
  have hnl := (List.getElem?_eq_some_iff.1 hn).1
  rw [(h.build h4 n 20 t [] (by omega) hn (.inl rfl)).2.2 rfl]
  congr 2
  refine subL_congr t.2 0 fun p hp => ?_
  obtain ⟨k, u, h1, h2, _⟩ := h.parts n t hn p hp
  rw [h1]
  exact buildF_fuel (fun n t hn p hp => by obtain ⟨k, u, h1, h2, _⟩ := h.parts n t hn p hp; exact ⟨k, h1, h2⟩) k 19 20 (by omega) (by omega) p.2

set_option maxHeartbeats 8000000 in
theorem prefabCounts_any (A : Option Addr) (n c B : Nat) (l : List Int) (x : Int) (w : World) (hr : Rd w B 1 A n (l.map (Value.int .i64))) (hn : n = l.length) (hnc : n ≤ c) (hc : c ≤ 9223372036854775807) (hz : ∀ z ∈ l, (Lit.int .i64 z).wf = true) (hB : B ≤ w.heap.size) :
    Calls Try.prog 4 #[.slice A n c, .int .i64 x] w fun e w' => e = .returned (.bool true) ∧ Below w.heap.size w w' := by
  have HKD := Lib.hid (kindsC_any A n c B l w hr hn hnc hc hz hB)
  have HPF := Lib.hid (fun (kA : Option Addr) (kn kc : Nat) (ks : List Kd) (wx : World) (hb : Below w.heap.size w wx) (hk : KsY wx 0 kA kn kc ks) (hone : ∀ k ∈ ks, oneF k.nm k.fds = 0) (h16 : kn ≤ 16) => prefabs_any A n c B l wx (hr.below (hb.mono hB)) hn hnc hc hz (Nat.le_trans hB hb.size) hk hone h16)
  have HBF := Lib.hid builds_any
  have HBW := Lib.hid below_any
  clear hr hn hz
  go_enter Try.func4, Try.ntmps4
  go_wp2_with fail
  (with_reducible refine HKD.out.mono ?_)
  clear HKD
  rintro e w1 ⟨kA, kn, kc, ks, rfl, HK, hb1⟩
  have HB1 := Lib.hid hb1
  have hkn4 := HK.out.2.2.2.2
  clear hb1
  go_wp2_with fail
  (with_reducible refine (HPF.out kA kn kc ks w1 HB1.out HK.out.1 (gen_one HK.out.2.1) (by omega)).mono ?_)
  clear HPF
  rintro e w2 ⟨TA, tn, tc, ts, rfl, HT, hb2⟩
  have HB2 : Hid (Below w.heap.size w w2) := Lib.hid (HB1.out.trans (hb2.mono HB1.out.size))
  have HK2 : Hid (KsY w2 0 kA kn kc ks) := Lib.hid (HK.out.1.keep (F := []) (Kx.of_below (B := 0) hb2) (by simp) (by simp))
  have ht1 := HT.out.2.1
  have ht4 := HT.out.2.2
  have htcap := HT.out.1.y.cap
  have htcap2 := HT.out.1.y.cap2
  have HV : Hid (TplV ks ts) := Lib.hid (HT.out.1.tplV (HK.out.2.1.check (by rw [List.length_map, ← HK.out.2.2.1]; exact hkn4)) ht4)
  clear hb2
  go_wp2_with fail
  (with_reducible refine (HBW.out x tn w2 (by omega) (by omega)).mono ?_)
  clear HBW
  rintro e w3 ⟨rfl, rfl⟩
  obtain ⟨w3, rfl⟩ : ∃ q, q = w2 := ⟨_, rfl⟩
  obtain ⟨nn, hnn⟩ : ∃ nn : Nat, x % (tn : Int) = nn := ⟨(x % (tn : Int)).toNat, by have := Int.emod_nonneg x (show (tn : Int) ≠ 0 by omega); omega⟩
  have hnt : nn < tn := by have := Int.emod_lt_of_pos x (show (0 : Int) < tn by omega); omega
  rw [hnn]
  clear hnn
  obtain ⟨t, htn⟩ : ∃ t, ts[nn]? = some t := ⟨_, List.getElem?_eq_getElem (by have := HT.out.1.len; omega)⟩
  have htp : (ts.map Pf.p)[nn]? = some t.p := by rw [List.getElem?_map, htn]; rfl
  have hlen4 : (ts.map Pf.p).length ≤ 4 := by rw [List.length_map, ← HT.out.1.len]; exact ht4
  have hbb := HT.out.1.dr.builds hlen4 htp
  obtain ⟨bf, hbf⟩ : ∃ bf, bf = buildF (ks.map Kd.p) (ts.map Pf.p) 20 := ⟨_, rfl⟩
  rw [← hbf] at hbb
  obtain ⟨H, hH⟩ : ∃ H, H = (([], t.p.1) : Blt) :: subL bf 0 t.p.2 := ⟨_, rfl⟩
  rw [← hH] at hbb
  have h200 : H.length ≤ 200 := by
    have h := (buildF_both (ks.map Kd.p) (ts.map Pf.p) 20 nn []).1
    rw [← hbf, hbb] at h; exact h
  have hpth : ∀ b ∈ H, b.1.length ≤ 20 := by
    have h := (buildF_both (ks.map Kd.p) (ts.map Pf.p) 20 nn []).2
    rw [← hbf, hbb] at h; exact h
  have HTS : Hid (PfsY w3 0 TA tn tc ts) := Lib.hid HT.out.1.y
  have HBL : Hid (∀ wx, Below w3.heap.size w3 wx → ∀ (k : Nat) (oA : Option Addr) (on oc : Nat) (ovs : List Ov), k < tn → OvsOk wx w3.heap.size oA on oc ovs → Calls Try.prog 25 #[.slice kA kn kc, .slice TA tn tc, .int .i64 k, .slice oA on oc] wx (BldP wx ks (bf k (ovs.map Ov.p)))) := Lib.hid fun wx hb k oA on oc ovs hk ho => by
    rw [hbf]
    exact pfbuild_any (HK2.out.ok_.below hb) (HTS.out.ok_.below hb) HV.out hk ho
  have HBB := Lib.hid hbb
  have HH := Lib.hid (And.intro hH (And.intro h200 hpth))
  have HTN := Lib.hid (And.intro htn htp)
  have HDR := Lib.hid (And.intro HT.out.1.dr hlen4)
  have HBFE := Lib.hid hbf
  clear htn htp hlen4 hbb hH h200 hpth hbf HT HK
  have HNIL : Hid (OvsOk w3 w3.heap.size none 0 0 ([] : List Ov)) := Lib.hid ⟨Rd.nil_ _, rfl, Nat.le_refl _, by omega, (fun y hy => by cases hy), Nat.le_refl _⟩
  go_wp2_with fail
  (with_reducible refine (HBL.out w3 (Below.refl _ _) nn none 0 0 [] hnt HNIL.out).mono ?_)
  rw [show (([] : List Ov).map Ov.p) = [] from rfl, HBB.out]
  rintro e w4 ⟨hb4, hor⟩
  rcases hor with ⟨h0, _⟩ | ⟨_, bA, bn, bc, lb, rfl, HLB0⟩
  · exact absurd rfl h0
  · have HLB : Hid (BuI w4 w3.heap.size ks bA bn bc lb ∧ lb.map Bt.p = H) := HLB0
    have HB4 := Lib.hid hb4
    clear hb4 HLB0
    have hbn : bn = H.length := by rw [← HLB.out.2, List.length_map]; exact HLB.out.1.len
    have hb1 : 1 ≤ bn := by rw [hbn, HH.out.1]; simp
    have hb200 : bn ≤ 200 := by rw [hbn]; exact HH.out.2.1
    have HBN := Lib.hid hbn
    clear hbn
    obtain ⟨b0, hlb0⟩ : ∃ b0, lb[0]? = some b0 := ⟨_, List.getElem?_eq_getElem (by have := HLB.out.1.len; omega)⟩
    have hp0 : b0.pn = 0 := by
      have h1 := congrArg (fun q => q[0]?) HLB.out.2
      simp only [List.getElem?_map, hlb0] at h1
      rw [HH.out.1] at h1
      have h2 : Bt.p b0 = ([], t.p.1) := by simpa using h1
      have h3 := (HLB.out.1.ys.ok b0 (List.mem_of_getElem? hlb0)).len
      have h4 : b0.path = [] := congrArg Prod.fst h2
      rw [h4] at h3; exact h3
    obtain ⟨bB, oB, rfl, hbB, r0, _⟩ := Rd.btS HLB.out.1.own (show 0 < bn by omega) hlb0
    rw [Nat.zero_mul, Nat.add_zero, hp0] at r0
    have hbcap := own_cap2 HLB.out.1.own
    have hbc1 := hbcap.1
    have hbc2 := hbcap.2
    clear hbcap hlb0 hp0
    go_wp2_with fail
    (with_reducible refine (HBF.out _).mono ?_)
    rintro e w5 ⟨rfl, hb5⟩
    have hb35 : Below w3.heap.size w3 w5 := HB4.out.trans (hb5.mono HB4.out.size)
    have HB5 := Lib.hid hb35
    have HB45 := Lib.hid hb5
    have r5 : w5.cell? ⟨bB, oB, none⟩ = some (.slice b0.pA 0 b0.pc) := (World.cell?_of_block (w := w4) (hb5.block bB hbB)).trans r0
    have t0 : ((bn : Int) == 0) = false := by simp; omega
    have t2 : ¬ ((bn : Int) = 0) := by omega
    have t3 : decide ((bn : Int) = 0) = false := by simp; omega
    have t4 : ¬ (bn = 0) := by omega
    have t1 : decide ((0 : Int) < ((0 : Nat) : Int)) = false := by decide
    obtain ⟨bTA, oTA, rfl, hbTA, u0, u1⟩ := (HTS.out.ok_.below hb35).rd.pf hnt HTN.out.1
    have hnz : (nn : Int) < tn := by omega
    have hnz0 : (0 : Int) ≤ nn := by omega
    have htok := ((HTS.out.ok_.below hb35).ok t (List.mem_of_getElem? HTN.out.1)).ts
    have htpcap := htok.cap
    have htpcap2 := htok.cap2
    clear hb5 hb35 HBF r0 htok
    generalize b0.pA = b0A at *
    generalize b0.pc = b0c at *
    obtain ⟨pA, hpA⟩ : ∃ q, q = t.tA := ⟨_, rfl⟩
    obtain ⟨pn, hpn⟩ : ∃ q, q = t.tn := ⟨_, rfl⟩
    obtain ⟨pc, hpc⟩ : ∃ q, q = t.tc := ⟨_, rfl⟩
    rw [← hpA, ← hpn, ← hpc] at u1
    rw [← hpn, ← hpc] at htpcap
    rw [← hpc] at htpcap2
    have HPV := Lib.hid (And.intro hpA (And.intro hpn hpc))
    clear hpA hpn hpc
    go_wp2_with fail
    all_goals try (exfalso; omega)
    clear t0 t1 t2 t3 t4 u0 u1 r5
    go_loopw [9, 57] (fun av iv wx => ∃ (i a : Nat), i ≤ pn ∧ iv = .int .i64 i ∧ av = .int .i64 a ∧ a ≤ bn ∧ Hid (H.drop a = subL bf i (t.p.2.drop i)) ∧ Hid (Below w5.heap.size w5 wx)) (fun _ iv _ => pn - (intOf iv).toNat)
    case atStart => exact ⟨0, 1, Nat.zero_le _, rfl, rfl, hb1, Lib.hid (by rw [HH.out.1]; rfl), Lib.hid (Below.refl _ _)⟩
    case round =>
      obtain ⟨i, a, hi, rfl, rfl, ha, HDP, HW⟩ := hrel
      have hb3r : Below w3.heap.size w3 wr := HB5.out.trans (HW.out.mono HB5.out.size)
      by_cases hlt : i < pn
      · have htw := ((HTS.out.ok_.below hb3r).ok t (List.mem_of_getElem? HTN.out.1)).ts
        obtain ⟨y, hy⟩ : ∃ y, t.pts[i]? = some y := ⟨_, List.getElem?_eq_getElem (by have := htw.len; have := HPV.out.2.1; omega)⟩
        rw [← HPV.out.1, ← HPV.out.2.1, ← HPV.out.2.2] at htw
        obtain ⟨b, o, rfl, hbb, q0, q1⟩ := htw.rd.pt hlt hy
        have hyo := htw.ok y (List.mem_of_getElem? hy)
        obtain ⟨k, ut, hyk, hkn, hku, hgood⟩ := HDR.out.1.parts nn t.p HTN.out.2 y.p (List.mem_map_of_mem (List.mem_of_getElem? hy))
        have hyk : y.of_ = k := hyk
        have hkl := (List.getElem?_eq_some_iff.1 hku).1
        have hkt : k < tn := by omega
        have hz0 := (HDR.out.1.build HDR.out.2 k 20 ut _ (by omega) hku hgood).1
        have hyp : (t.p.2)[i]? = some y.p := by show (t.pts.map Pt.p)[i]? = _; rw [List.getElem?_map, hy]; rfl
        have hdp := HDP.out
        rw [subL_drop bf hyp] at hdp
        obtain ⟨Z, hZ⟩ : ∃ Z, Z = bf k (y.ovs.map Ov.p) := ⟨_, rfl⟩
        have hdp2 : H.drop a = (Z.2.map fun b => ((i : Int) :: b.1, b.2)) ++ subL bf (i + 1) (t.p.2.drop (i + 1)) := by
          rw [hdp, hZ]; show _ = (((bf k (y.ovs.map Ov.p)).2.map fun b => ((i : Int) :: b.1, b.2)) ++ _)
          rw [← hyk]; rfl
        have hZ0 : Z.1 = 0 := by rw [hZ, HBFE.out, ← hyk]; rw [← hyk] at hz0; exact hz0
        obtain ⟨W1, hW1⟩ : ∃ W1, W1 = wr.alloc (.cells #[.int .i64 k, .slice y.oA y.on y.oc] 46) := ⟨_, rfl⟩
        have hbw1 : Below wr.heap.size wr W1 := by rw [hW1]; exact (Below.refl _ _).alloc (Nat.le_refl _) _
        have hhh : Bk W1 wr.heap.size 46 #[.int .i64 k, .slice y.oA y.on y.oc] := by rw [hW1]; exact Bk.new _ _ _
        have hb3w : Below w3.heap.size w3 W1 := hb3r.trans (hbw1.mono hb3r.size)
        have hov : OvsOk W1 w3.heap.size y.oA y.on y.oc y.ovs := by
          have h := (((HTS.out.ok_.below hb3w).ok t (List.mem_of_getElem? HTN.out.1)).ts.ok y (List.mem_of_getElem? hy)).ov
          exact h
        have hcall := HBL.out W1 hb3w k y.oA y.on y.oc y.ovs hkt hov
        rw [← hZ] at hcall
        rw [hyk] at q0
        have HCALL := Lib.hid hcall
        have HZ := Lib.hid (And.intro hZ0 hdp2)
        have HB3W := Lib.hid hb3w
        have HB5W : Hid (Below w5.heap.size w5 W1) := Lib.hid (HW.out.trans (hbw1.mono HW.out.size))
        obtain ⟨hh, hhe⟩ : ∃ hh, hh = wr.heap.size := ⟨_, rfl⟩
        rw [← hhe] at hhh
        have z0 : W1.cell? ⟨hh, 0, none⟩ = some (.int .i64 k) := hhh.cell 0
        have z1 : W1.cell? ⟨hh, 1, none⟩ = some (.slice y.oA y.on y.oc) := hhh.cell 1
        have HW1 := Lib.hid (And.intro hW1 hhe)
        have hiz : (i : Int) < pn := by omega
        have hiz0 : (0 : Int) ≤ i := by omega
        clear htw hy hbb hyo hyk hkn hku hgood hkl hz0 hyp hdp hZ hdp2 hZ0 hbw1 hhh hb3w hov hcall hb3r HW HDP hW1 hhe
        generalize y.oA = yoA at *
        generalize y.on = yon at *
        generalize y.oc = yoc at *
        go_upto_region 11 with fail
        rw [← HW1.out.1, ← HW1.out.2]
        clear q0 q1
        go_wp2_with fail
        with_reducible refine (HCALL.out).mono ?_
        clear HCALL z0 z1
        rintro e w6 ⟨hb6, hor⟩
        have HB6 : Hid (Below w5.heap.size w5 w6) := Lib.hid (HB5W.out.trans (hb6.mono HB5W.out.size))
        clear hb6
        rcases hor with ⟨h0, _⟩ | ⟨_, sA, sn, sc, sub, rfl, HSB⟩
        · exact absurd HZ.out.1 h0
        · have hsn : sn = Z.2.length := by rw [← HSB.out.2, List.length_map]; exact HSB.out.1.len
          have hasn : a + sn ≤ bn := by
            have h := congrArg List.length HZ.out.2
            have h3 := HBN.out
            rw [List.length_drop, List.length_append, List.length_map] at h
            omega
          have hasz : ¬ ((bn : Int) < (a : Int) + sn) := by omega
          have hasd : decide ((bn : Int) < (a : Int) + sn) = false := by simp; omega
          have HSN := Lib.hid hsn
          clear hsn
          have hscap := own_cap2 HSB.out.1.own
          have hsc1 := hscap.1
          have hsc2 := hscap.2
          clear hscap
          have HB46 : Hid (Below w4.heap.size w4 w6) := Lib.hid (HB45.out.trans (HB6.out.mono HB45.out.size))
          have HPTH : Hid (∀ (j : Nat) (sx : Bt), sub[j]? = some sx → ∃ bx, lb[a + j]? = some bx ∧ bx.path = (i : Int) :: sx.path) := Lib.hid fun j sx hsx => by
            have hjl := (List.getElem?_eq_some_iff.1 hsx).1
            have hsl := HSB.out.1.len
            obtain ⟨bx, hbx⟩ : ∃ bx, lb[a + j]? = some bx := ⟨_, List.getElem?_eq_getElem (by have := HLB.out.1.len; omega)⟩
            refine ⟨bx, hbx, ?_⟩
            have h1 : H[a + j]? = some bx.p := by rw [← HLB.out.2, List.getElem?_map, hbx]; rfl
            have h2 : (H.drop a)[j]? = some bx.p := by rw [List.getElem?_drop]; exact h1
            rw [HZ.out.2, List.getElem?_append_left (by rw [List.length_map, ← HSN.out]; omega), List.getElem?_map, ← HSB.out.2, List.getElem?_map, hsx] at h2
            have h3 : ((i : Int) :: sx.p.1, sx.p.2) = bx.p := by simpa using h2
            exact (congrArg Prod.fst h3).symm
          have H20 : Hid (∀ sx ∈ sub, sx.path.length ≤ 100) := Lib.hid fun sx hsx => by
            obtain ⟨j, hj⟩ := List.mem_iff_getElem?.1 hsx
            obtain ⟨bx, hbx, hpe⟩ := HPTH.out j sx hj
            have h1 := HH.out.2.2 bx.p (by rw [← HLB.out.2]; exact List.mem_map_of_mem (List.mem_of_getElem? hbx))
            have h2 : bx.p.1 = (i : Int) :: sx.path := hpe
            rw [h2, List.length_cons] at h1
            omega
          have hpn8 : pn ≤ 2 := by
            have h := HDR.out.1.few t.p (List.mem_map_of_mem (List.mem_of_getElem? HTN.out.1))
            have h2 : (t.pts.map Pt.p).length ≤ 2 := h
            rw [List.length_map] at h2
            have h3 := ((HTS.out.ok t (List.mem_of_getElem? HTN.out.1))).ts.len
            have h4 := HPV.out.2.1
            omega
          go_upto_if 82 with fail
          first
            | (go_step; refine pcInner_any HLB.out.1 HB46.out HSB.out.1 hasn (by omega) HPTH.out H20.out ?_)
            | (go_step; go_step; refine pcInner_any HLB.out.1 HB46.out HSB.out.1 hasn (by omega) HPTH.out H20.out ?_)
            | (go_step; go_step; go_step; refine pcInner_any HLB.out.1 HB46.out HSB.out.1 hasn (by omega) HPTH.out H20.out ?_)
            | (go_step; go_step; go_step; go_step; refine pcInner_any HLB.out.1 HB46.out HSB.out.1 hasn (by omega) HPTH.out H20.out ?_)
            | (go_step; go_step; go_step; go_step; go_step; refine pcInner_any HLB.out.1 HB46.out HSB.out.1 hasn (by omega) HPTH.out H20.out ?_)
            | (go_step; go_step; go_step; go_step; go_step; go_step; refine pcInner_any HLB.out.1 HB46.out HSB.out.1 hasn (by omega) HPTH.out H20.out ?_)
            | (go_step; go_step; go_step; go_step; go_step; go_step; go_step; refine pcInner_any HLB.out.1 HB46.out HSB.out.1 hasn (by omega) HPTH.out H20.out ?_)
            | (go_step; go_step; go_step; go_step; go_step; go_step; go_step; go_step; refine pcInner_any HLB.out.1 HB46.out HSB.out.1 hasn (by omega) HPTH.out H20.out ?_)
            | (go_step; go_step; go_step; go_step; go_step; go_step; go_step; go_step; go_step; refine pcInner_any HLB.out.1 HB46.out HSB.out.1 hasn (by omega) HPTH.out H20.out ?_)
          intros
          rename_i w7 HR
          obtain ⟨w7, rfl⟩ : ∃ q, q = w7 := ⟨_, rfl⟩
          have HBN5 : Hid (Below w5.heap.size w5 w7) := Lib.hid (HB6.out.trans (HR.out.mono HB6.out.size))
          have hdn : H.drop (a + sn) = subL bf (i + 1) (t.p.2.drop (i + 1)) := by
            rw [← List.drop_drop, HZ.out.2, List.drop_left' (by rw [List.length_map, ← HSN.out])]
          have HDN := Lib.hid hdn
          clear hdn HR
          go_wp2_with fail
          go_roundw
          case measure => simp [intOf]; omega
          case rel => exact ⟨i + 1, a + sn, hlt, by go_num, by go_num, hasn, HDN, HBN5⟩
      · obtain rfl : i = pn := by omega
        have hpnl : t.p.2.length ≤ i := by
          show (t.pts.map Pt.p).length ≤ i
          rw [List.length_map, HPV.out.2.1, ← ((HTS.out.ok t (List.mem_of_getElem? HTN.out.1))).ts.len]; exact Nat.le_refl _
        have hae : a = bn := by
          have h := HDP.out
          rw [List.drop_of_length_le hpnl, subL] at h
          have h2 := congrArg List.length h
          have h3 := HBN.out
          rw [List.length_drop] at h2
          simp at h2
          omega
        subst hae
        have HBE : Hid (Below w.heap.size w wr) := Lib.hid (HB2.out.trans (hb3r.mono HB2.out.size))
        clear hb3r
        go_wp2_with fail
        go_ret
        exact ⟨by simp, HBE.out⟩
end Go.Proofs.Ytnidcmhfbkdioaa
