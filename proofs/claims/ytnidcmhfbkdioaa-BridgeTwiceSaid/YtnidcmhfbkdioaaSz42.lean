/-
  The walk of BridgeKeeps. Conditions: what is read can be read.
-/
import Derived.Test.YtnidcmhfbkdioaaSz41
import Derived.Test.YtnidcmhfbkdioaaSz27
namespace Go.Proofs.Ytnidcmhfbkdioaa
open Go.RowKit
set_option maxRecDepth 100000
theorem eq128_same (a b : Int) (w : World) : Sem.run Try.prog (Op.equalIn 10000 128 (.agg #[.int .i64 a, .int .i64 b]) (.agg #[.int .i64 a, .int .i64 b])) w = .ok true w := by
  have h3 := fun a b => eqiB 9998 a b
  have ha : ∀ w, Sem.run Try.prog (isAgg 3) w = .ok false w := fun w => by simp [isAgg, run_underlying Try.underlying3, go_sem]
  rw [show (9998 + 1 : Nat) = 9999 from rfl] at h3
  rw [show (10000 : Nat) = 9999 + 1 from rfl]
  unfold Op.equalIn
  simp [run_underlying Try.underlying128, go_sem, ha, h3, part]
/-- What the head of the law hands over: a drawn world, and the world that is written. -/
structure BkH (w : World) (y y2 : Wd) (m0 m1 m2 : Int) : Prop where
  a : WdOk w w.heap.size y
  b : WdOk w w.heap.size y2
  its : KeepL m0 m1 (y.its.map It.p) (y2.its.map It.p)
  gens : y2.gens = y.gens
theorem BkH.fresh {w w' : World} {y y2 : Wd} {m0 m1 m2 : Int} (h : BkH w y y2 m0 m1 m2) (hb : Below w.heap.size w w') : BkH w' y y2 m0 m1 m2 := ⟨h.a.fresh hb, h.b.fresh hb, h.its, h.gens⟩
set_option maxHeartbeats 16000000 in
theorem bridgeKeeps_any {w : World} {ln lc xn xc : Nat} {lA xA : Option Addr} {ls xs : List Int}
    (hl : Rd w w.heap.size 1 lA ln (ls.map (Value.int .i64))) (hln : ln = ls.length) (hlc : ln ≤ lc) (hlc2 : lc ≤ 9223372036854775807) (hlz : ∀ z ∈ ls, (Lit.int .i64 z).wf = true)
    (hx : Rd w w.heap.size 1 xA xn (xs.map (Value.int .i64))) (hxn : xn = xs.length) (hxc : xn ≤ xc) (hxc2 : xc ≤ 9223372036854775807) (hxz : ∀ z ∈ xs, (Lit.int .i64 z).wf = true) :
    Calls Try.prog 15 #[.slice lA ln lc, .slice xA xn xc] w fun e w' => e = .returned (.bool true) ∧ Below w.heap.size w w' := by
  have HGA : Hid (Calls Try.prog 55 #[.slice lA ln lc] w _) := Lib.hid (game_any lA ln lc w.heap.size ls w hl hln hlc hlc2 hlz (Nat.le_refl _))
  have HXS := Lib.hid (And.intro hx (And.intro hxn (And.intro hxc (And.intro hxc2 hxz))))
  clear hl hln hlc hlc2 hlz hx hxn hxc hxc2 hxz
  go_enter Try.func15, Try.ntmps15
  go_wp2_with fail
  (with_reducible refine HGA.out.mono ?_)
  rintro e w1 ⟨kA, sA, pA, kn, kc, sn, sc, pn, pc, nk, ks, pl, seed, gy, stp, fuel, rfl, hg1, hb1⟩
  have HG1 := hg1
  clear hg1 HGA
  obtain ⟨gA, hgA⟩ : ∃ z, z = w1.heap.size := ⟨_, rfl⟩
  obtain ⟨W2, hW2⟩ : ∃ z, z = w1.alloc (.cells #[.slice kA kn kc, .slice sA sn sc, .slice pA pn pc, .int .i64 pl, .int .i64 seed, .int .i64 0, .int .i64 gy, .int .i64 stp, .int .i64 fuel] 110) := ⟨_, rfl⟩
  have hb12 : Below w1.heap.size w1 W2 := by rw [hW2]; exact (Below.refl _ _).alloc (Nat.le_refl _) _
  have HGB : Hid (Bk W2 gA 110 #[.slice kA kn kc, .slice sA sn sc, .slice pA pn pc, .int .i64 pl, .int .i64 seed, .int .i64 0, .int .i64 gy, .int .i64 stp, .int .i64 fuel]) := Lib.hid (by rw [hW2, hgA]; exact Bk.new _ _ _)
  have HB2 : Hid (Below w.heap.size w W2) := Lib.hid (hb1.trans (hb12.mono hb1.size))
  have HKS : Hid (KsY W2 0 kA kn kc ks) := Lib.hid (HG1.out.1.keep (F := []) (Kx.of_below hb12) (by simp) (by simp))
  have HKW : Hid (Calls Try.prog 54 #[.agg #[.slice kA kn kc, .slice sA sn sc, .slice pA pn pc, .int .i64 pl, .int .i64 seed, .int .i64 0, .int .i64 gy, .int .i64 stp, .int .i64 fuel], .slice xA xn xc] W2 _) := Lib.hid (kworld_any xA xn xc w.heap.size xs W2 (HXS.out.1.below HB2.out) HXS.out.2.1 HXS.out.2.2.1 HXS.out.2.2.2.1 HXS.out.2.2.2.2 HB2.out.size HKS.out
    (fun k hk => kindsN_one nk HG1.out.2.2.1 k.p (by rw [← HG1.out.2.1]; exact List.mem_map_of_mem hk)) (fun k hk => kindsN_place nk HG1.out.2.2.1 k.p (by rw [← HG1.out.2.1]; exact List.mem_map_of_mem hk)) (by
      have h1 := kindsN_len nk HG1.out.2.2.1
      have h2 := HG1.out.1.len
      have h3 := congrArg List.length HG1.out.2.1
      rw [List.length_map] at h3
      omega))
  clear hb1 hb12
  go_upto_region 2 with fail
  rw [← hW2, ← hgA]
  clear hW2 hgA
  have g0 : W2.cell? ⟨gA, 0, none⟩ = some (.slice kA kn kc) := HGB.out.cell 0
  have g1 : W2.cell? ⟨gA, 1, none⟩ = some (.slice sA sn sc) := HGB.out.cell 1
  have g2 : W2.cell? ⟨gA, 2, none⟩ = some (.slice pA pn pc) := HGB.out.cell 2
  have g3 : W2.cell? ⟨gA, 3, none⟩ = some (.int .i64 pl) := HGB.out.cell 3
  have g4 : W2.cell? ⟨gA, 4, none⟩ = some (.int .i64 seed) := HGB.out.cell 4
  have g5 : W2.cell? ⟨gA, 5, none⟩ = some (.int .i64 0) := HGB.out.cell 5
  have g6 : W2.cell? ⟨gA, 6, none⟩ = some (.int .i64 gy) := HGB.out.cell 6
  have g7 : W2.cell? ⟨gA, 7, none⟩ = some (.int .i64 stp) := HGB.out.cell 7
  have g8 : W2.cell? ⟨gA, 8, none⟩ = some (.int .i64 fuel) := HGB.out.cell 8
  go_wp2_with fail
  (with_reducible refine HKW.out.mono ?_)
  rintro e w3 ⟨y, rfl, hy, hb3⟩
  clear g0 g1 g2 g3 g4 g5 g6 g7 g8 HKW
  obtain ⟨⟨⟨m0, m1, m2⟩, mv⟩, hmv⟩ : ∃ z, z = mapF (y.ks.map Kd.p) := ⟨_, rfl⟩
  have hyk : y.ks.map Kd.p = kindsN nk := by rw [hy.out.2.2.2.2.1]; exact HG1.out.2.1
  have hmv0 : mv = 0 := by
    have h1 := kindsN_map nk HG1.out.2.2.1
    rw [← hyk, ← hmv] at h1
    exact h1
  subst hmv0
  have hck : checkF y.p.ks = 0 := by show checkF (y.ks.map Kd.p) = 0; rw [hyk]; exact kindsN_check nk HG1.out.2.2.1
  have hcv : wcheckF y.p = 0 := check_of hck hy.out.1.2
  have HMV : Hid (mapF (y.ks.map Kd.p) = ((m0, m1, m2), 0)) := Lib.hid hmv.symm
  have HCV : Hid (checkF y.p.ks = 0 ∧ wcheckF y.p = 0 ∧ VW holdK y.p ∧ y.its.length ≤ 5) := Lib.hid ⟨hck, hcv, hy.out.1.2, hy.out.2.2.2.2.2.1⟩
  obtain ⟨wA, hwA⟩ : ∃ z, z = w3.heap.size := ⟨_, rfl⟩
  obtain ⟨W4, hW4⟩ : ∃ z, z = w3.alloc (.cells #[.slice y.kA y.kn y.kc, .slice y.gA y.gn y.gc, .slice y.iA y.im y.ic] 52) := ⟨_, rfl⟩
  have hb34 : Below w3.heap.size w3 W4 := by rw [hW4]; exact (Below.refl _ _).alloc (Nat.le_refl _) _
  have HWB : Hid (Bk W4 wA 52 #[.slice y.kA y.kn y.kc, .slice y.gA y.gn y.gc, .slice y.iA y.im y.ic]) := Lib.hid (by rw [hW4, hwA]; exact Bk.new _ _ _)
  have HY4 : Hid (WdOk W4 W4.heap.size y) := Lib.hid ((hy.out.1.1.ok_).fresh hb34)
  have hb24 : Below W2.heap.size W2 W4 := hb3.trans (hb34.mono hb3.size)
  have HB4 : Hid (Below w.heap.size w W4) := Lib.hid (HB2.out.trans (hb24.mono HB2.out.size))
  have HGB4 := Lib.hid (HGB.out.bel hb24)
  have HKS4 : Hid (KsOk W4 W4.heap.size kA kn kc ks) := Lib.hid ((HKS.out.keep (F := []) (Kx.of_below hb24) (by simp) (by simp)).ok_)
  have HKP : Hid (ks.map Kd.p = y.ks.map Kd.p) := Lib.hid (by rw [hyk]; exact HG1.out.2.1)
  clear hmv hyk hck hcv hy hb3 hb34 hb24 HKS HGB HB2
  simp only [Wd.v]
  go_upto_region 3 with fail
  rw [← hW4, ← hwA]
  clear hW4 hwA
  have HSC : Hid (Calls Try.prog 56 #[.agg #[.slice y.kA y.kn y.kc, .slice y.gA y.gn y.gc, .slice y.iA y.im y.ic], .slice none 0 0, .agg #[.int .i64 0, .int .i64 gy], .int .i64 stp] W4 (ScP W4 0 0 0 gy stp (bodiesF m0 m1 m2 y.its) (ctsF (slotM ((bodiesF m0 m1 m2 y.its).map Prod.snd) 0 fun _ => none) []))) := Lib.hid
    (scene_any (cl := []) HY4.out ⟨rfl, fun h => absurd h (by omega)⟩ rfl (Nat.le_refl _) (by omega) (by omega) (fun c hc => by cases hc) HCV.out.2.1.symm HMV.out (fun _ _ it hit => by
      have h := itv_of HY4.out HCV.out.2.1 HMV.out it hit
      exact ⟨h.v0, h.v1, h.v2⟩))
  have a0 : W4.cell? ⟨wA, 0, none⟩ = some (.slice y.kA y.kn y.kc) := HWB.out.cell 0
  have a1 : W4.cell? ⟨wA, 1, none⟩ = some (.slice y.gA y.gn y.gc) := HWB.out.cell 1
  have a2 : W4.cell? ⟨wA, 2, none⟩ = some (.slice y.iA y.im y.ic) := HWB.out.cell 2
  have g5 : W4.cell? ⟨gA, 5, none⟩ = some (.int .i64 0) := HGB4.out.cell 5
  have g6 : W4.cell? ⟨gA, 6, none⟩ = some (.int .i64 gy) := HGB4.out.cell 6
  have g7 : W4.cell? ⟨gA, 7, none⟩ = some (.int .i64 stp) := HGB4.out.cell 7
  go_wp2_with fail
  (with_reducible refine HSC.out.mono ?_)
  rintro e w5 ⟨hb5, hr⟩
  clear a0 a1 a2 g5 g6 g7 HSC
  have hq64 : (bodiesF m0 m1 m2 y.its).length ≤ 64 := by
    have h1 : (bodiesF m0 m1 m2 y.its).length ≤ y.its.length := by unfold bodiesF; exact List.length_filterMap_le _ _
    have h2 := HCV.out.2.2.2
    omega
  rcases hr with ⟨hc0, rfl⟩ | ⟨hc0, hm0, rfl⟩ | ⟨hc0, hm0, hq, rfl⟩ | ⟨hc0, hm0, hq, bA, bn, bc, cA, cn, cc, E, ec, rfl, hR⟩
  · exact absurd rfl hc0
  · exact absurd rfl hm0
  · omega
  clear hc0 hm0 hq hq64
  obtain ⟨zA, hzA⟩ : ∃ z, z = w5.heap.size := ⟨_, rfl⟩
  obtain ⟨W6, hW6⟩ : ∃ z, z = w5.alloc (.cells #[.slice bA bn bc, .slice none 0 0, .slice cA cn cc, .int .i64 0, .int .i64 gy, .int .i64 stp] 115) := ⟨_, rfl⟩
  have hb56 : Below w5.heap.size w5 W6 := by rw [hW6]; exact (Below.refl _ _).alloc (Nat.le_refl _) _
  have hb46 : Below W4.heap.size W4 W6 := hb5.trans (hb56.mono hb5.size)
  have HZB : Hid (Bk W6 zA 115 #[.slice bA bn bc, .slice none 0 0, .slice cA cn cc, .int .i64 0, .int .i64 gy, .int .i64 stp]) := Lib.hid (by rw [hW6, hzA]; exact Bk.new _ _ _)
  have HWB6 := Lib.hid (HWB.out.bel hb46)
  have HGB6 := Lib.hid (HGB4.out.bel hb46)
  have HY6 : Hid (WdOk W6 W6.heap.size y) := Lib.hid (HY4.out.fresh hb46)
  have HKS6 : Hid (KsOk W6 W6.heap.size kA kn kc ks) := Lib.hid ((HKS4.out.below hb46).more hb46.size (Nat.le_refl _))
  have HB6 : Hid (Below w.heap.size w W6) := Lib.hid (HB4.out.trans (hb46.mono HB4.out.size))
  have HR6 : Hid (ScR W6 W4.heap.size bA bn bc cA cn cc E ec (bodiesF m0 m1 m2 y.its) (ctsF (slotM ((bodiesF m0 m1 m2 y.its).map Prod.snd) 0 fun _ => none) [])) := Lib.hid (hR.below hb56)
  clear hb5 hb56 hb46 hR HWB HGB4 HY4 HKS4 HB4
  go_upto_region 4 with fail
  rw [← hW6, ← hzA]
  clear hW6 hzA
  obtain ⟨bl, hbm, hbq⟩ := HR6.out.bm
  have hown := HR6.out.ct
  have hcn0 : cn = 0 := by
    have h1 := hown.1
    simp [ctsF, ctCs] at h1
    omega
  subst hcn0
  obtain ⟨R, hRd⟩ : ∃ z, z = ((bodiesF m0 m1 m2 y.its).map Prod.snd).zip (bl.map Bm.by_) := ⟨_, rfl⟩
  have HBW : Hid (Calls Try.prog 66 #[.agg #[.slice y.kA y.kn y.kc, .slice y.gA y.gn y.gc, .slice y.iA y.im y.ic], .agg #[.slice bA bn bc, .slice none 0 0, .slice cA 0 cc, .int .i64 0, .int .i64 gy, .int .i64 stp], .slice E bn ec] W6 (BwP W6 0 0 bn bn m0 m1 (kdAt y.p.ks m0) (kdAt y.p.ks m1) y.p R ((bodiesF m0 m1 m2 y.its).map Prod.snd) [])) := Lib.hid (by
    rw [hRd]
    refine bworld_any (cl := []) HY6.out ?_ ?_ (own_cap2 hbm.own).1 (own_cap2 hbm.own).2 ⟨rfl, fun h => absurd h (by omega)⟩ rfl (Nat.zero_le _) (own_cap2 hown).2 (by omega) (Rd.of_own HR6.out.en) (by rw [List.length_map]; exact HR6.out.len) (own_cap2 HR6.out.en).1 (own_cap2 HR6.out.en).2 HCV.out.2.1.symm HMV.out (fun _ => small_of HCV.out.1 HCV.out.2.2.1) (fun _ _ => PlOk.of_valid HCV.out.2.2.1 HCV.out.1 HMV.out) (fun _ _ => mapF_kd HMV.out)
    · rw [byCs_bm]; exact Rd.of_own hbm.own
    · rw [List.length_map]; exact hbm.len)
  have HGOOD : Hid (∀ i r, R[i]? = some r → bwBad m0 (bwF m0 m1 (kdAt y.p.ks m0) (kdAt y.p.ks m1) y.p.its (R.take i)) r.1 = false) := Lib.hid (by rw [hRd]; exact scene_good HCV.out.2.2.1 _)
  clear hbm hbq hown hRd HR6
  have a0 : W6.cell? ⟨wA, 0, none⟩ = some (.slice y.kA y.kn y.kc) := HWB6.out.cell 0
  have a1 : W6.cell? ⟨wA, 1, none⟩ = some (.slice y.gA y.gn y.gc) := HWB6.out.cell 1
  have a2 : W6.cell? ⟨wA, 2, none⟩ = some (.slice y.iA y.im y.ic) := HWB6.out.cell 2
  have z0 : W6.cell? ⟨zA, 0, none⟩ = some (.slice bA bn bc) := HZB.out.cell 0
  have z1 : W6.cell? ⟨zA, 1, none⟩ = some (.slice none 0 0) := HZB.out.cell 1
  have z2 : W6.cell? ⟨zA, 2, none⟩ = some (.slice cA 0 cc) := HZB.out.cell 2
  have z3 : W6.cell? ⟨zA, 3, none⟩ = some (.int .i64 0) := HZB.out.cell 3
  have z4 : W6.cell? ⟨zA, 4, none⟩ = some (.int .i64 gy) := HZB.out.cell 4
  have z5 : W6.cell? ⟨zA, 5, none⟩ = some (.int .i64 stp) := HZB.out.cell 5
  go_wp2_with fail
  (with_reducible refine HBW.out.mono ?_)
  rintro e w7 ⟨hb7, hr⟩
  clear a0 a1 a2 z0 z1 z2 z3 z4 z5 HBW
  rcases hr with ⟨hc0, rfl⟩ | ⟨_, hm0, rfl⟩ | ⟨_, _, hn, rfl⟩ | ⟨_, _, _, ⟨i, r, hr1, hr2⟩, rfl⟩ | ⟨_, _, _, _, ⟨c, hc, _⟩, rfl⟩ | ⟨_, _, _, _, _, y2, qA, qn, qc, rfl, hqn, hY2⟩
  · exact absurd rfl hc0
  · exact absurd rfl hm0
  · exact absurd rfl hn
  · rw [HGOOD.out i r hr1] at hr2; cases hr2
  · cases hc
  clear HGOOD hqn
  obtain ⟨vA, hvA⟩ : ∃ z, z = w7.heap.size := ⟨_, rfl⟩
  obtain ⟨W8, hW8⟩ : ∃ z, z = w7.alloc (.cells #[.slice y2.kA y2.kn y2.kc, .slice y2.gA y2.gn y2.gc, .slice y2.iA y2.im y2.ic] 52) := ⟨_, rfl⟩
  have hb78 : Below w7.heap.size w7 W8 := by rw [hW8]; exact (Below.refl _ _).alloc (Nat.le_refl _) _
  have hb68 : Below W6.heap.size W6 W8 := hb7.trans (hb78.mono hb7.size)
  have HVB : Hid (Bk W8 vA 52 #[.slice y2.kA y2.kn y2.kc, .slice y2.gA y2.gn y2.gc, .slice y2.iA y2.im y2.ic]) := Lib.hid (by rw [hW8, hvA]; exact Bk.new _ _ _)
  have HH8 : Hid (BkH W8 y y2 m0 m1 m2) := Lib.hid ⟨HY6.out.fresh hb68, (hY2.out.1.ok_).fresh hb78, by
    have h1 : y2.its.map It.p = y2.p.its := rfl
    rw [h1, hY2.out.2.1]
    exact KeepL.bwF _ _, by
    have h1 : y2.gens = y2.p.gens := rfl
    rw [h1, hY2.out.2.1]
    rfl⟩
  have HWB8 := Lib.hid (HWB6.out.bel hb68)
  have HGB8 := Lib.hid (HGB6.out.bel hb68)
  have HKS8 : Hid (KsOk W8 W8.heap.size kA kn kc ks) := Lib.hid ((HKS6.out.below hb68).more hb68.size (Nat.le_refl _))
  have HB8 : Hid (Below w.heap.size w W8) := Lib.hid (HB6.out.trans (hb68.mono HB6.out.size))
  clear hb7 hb78 hb68 hY2 HWB6 HGB6 HY6 HKS6 HB6 HZB
  simp only [Wd.v]
  go_upto_region 5 with fail
  rw [← hW8, ← hvA]
  clear hW8 hvA
  have HOF : Hid (Calls Try.prog 19 #[.slice kA kn kc] W8 (OfP W8 ((m0, m1, m2), 0))) := Lib.hid (by have h1 := of_says HKS8.out; rw [HKP.out, HMV.out] at h1; exact h1)
  have g0 : W8.cell? ⟨gA, 0, none⟩ = some (.slice kA kn kc) := HGB8.out.cell 0
  go_wp2_with fail
  (with_reducible refine HOF.out.mono ?_)
  rintro e w9 ⟨rfl, hb9⟩
  clear g0 HOF
  dsimp only
  obtain ⟨mA, hmA⟩ : ∃ z, z = w9.heap.size := ⟨_, rfl⟩
  obtain ⟨W10, hW10⟩ : ∃ z, z = w9.alloc (.cells #[.int .i64 m0, .int .i64 m1, .int .i64 m2] 24) := ⟨_, rfl⟩
  have hb8a : Below W8.heap.size W8 W10 := by rw [hW10]; exact hb9.alloc hb9.size _
  have HMA : Hid (Bk W10 mA 24 #[.int .i64 m0, .int .i64 m1, .int .i64 m2]) := Lib.hid (by rw [hW10, hmA]; exact Bk.new _ _ _)
  have HVB10 := Lib.hid (HVB.out.bel hb8a)
  have HWB10 := Lib.hid (HWB8.out.bel hb8a)
  have HH10 := Lib.hid (HH8.out.fresh hb8a)
  have HB10 : Hid (Below w.heap.size w W10) := Lib.hid (HB8.out.trans (hb8a.mono HB8.out.size))
  clear hb9 hb8a HVB HWB8 HGB8 HKS8 HH8 HB8
  go_upto_region 6 with fail
  rw [← hW10, ← hmA]
  clear hW10 hmA
  have HBO := Lib.hid (bodies2_say W10)
  go_wp2_with fail
  (with_reducible refine HBO.out.mono ?_)
  rintro e w11 ⟨rfl, hb11⟩
  have HMA11 := Lib.hid (HMA.out.bel hb11)
  have HVB11 := Lib.hid (HVB10.out.bel hb11)
  have HWB11 := Lib.hid (HWB10.out.bel hb11)
  have HH11 := Lib.hid (HH10.out.fresh hb11)
  have HB11 : Hid (Below w.heap.size w w11) := Lib.hid (HB10.out.trans (hb11.mono HB10.out.size))
  clear hb11 HBO HMA HVB10 HWB10 HH10 HB10
  have him : y2.im = y.im := by
    rw [HH11.out.a.its.len, HH11.out.b.its.len]
    have h1 := HH11.out.its.1
    simpa using h1
  have HIM := Lib.hid him
  have hne : ((y2.im : Int) != (y.im : Int)) = false := by rw [him]; exact bne_self_eq_false _
  have HEQ : Hid (Calls Try.prog 27 #[.slice y2.gA y2.gn y2.gc, .slice y.gA y.gn y.gc] w11 fun e w' => e = .returned (.bool true) ∧ ∃ m, w11.drewN m = w') := Lib.hid (by
    have a1 := HH11.out.a.gs
    have a2 := HH11.out.b.gs
    have h3 := equalInts_any y2.gA y.gA y2.gn y2.gc y.gn y.gc w11.heap.size y2.gens y.gens w11 a2.len a1.len (Nat.le_trans a2.cap a2.cap2) a2.rd a1.rd
    rw [HH11.out.gens, decide_eq_true rfl] at h3
    exact h3)
  have a1 : w11.cell? ⟨wA, 1, none⟩ = some (.slice y.gA y.gn y.gc) := HWB11.out.cell 1
  have a2 : w11.cell? ⟨wA, 2, none⟩ = some (.slice y.iA y.im y.ic) := HWB11.out.cell 2
  have v1 : w11.cell? ⟨vA, 1, none⟩ = some (.slice y2.gA y2.gn y2.gc) := HVB11.out.cell 1
  have v2 : w11.cell? ⟨vA, 2, none⟩ = some (.slice y2.iA y2.im y2.ic) := HVB11.out.cell 2
  clear him
  go_wp2_with fail
  (with_reducible refine HEQ.out.mono ?_)
  rintro e w12 ⟨rfl, m, hm12⟩
  have hb12 : Below w11.heap.size w11 w12 := by rw [← hm12]; exact ⟨rfl, rfl, rfl, Nat.le_refl _, fun _ _ => rfl⟩
  clear a1 a2 v1 v2 HEQ hne hm12
  obtain ⟨iA, hiA⟩ : ∃ z, z = y.iA := ⟨_, rfl⟩
  obtain ⟨im, him⟩ : ∃ z, z = y.im := ⟨_, rfl⟩
  obtain ⟨ic, hic⟩ : ∃ z, z = y.ic := ⟨_, rfl⟩
  obtain ⟨jA, hjA⟩ : ∃ z, z = y2.iA := ⟨_, rfl⟩
  obtain ⟨jc, hjc⟩ : ∃ z, z = y2.ic := ⟨_, rfl⟩
  have HHX := Lib.hid (HH11.out.fresh hb12)
  have HIS : Hid (IsOk w12 w12.heap.size iA im ic y.its) := Lib.hid (by rw [hiA, him, hic]; exact HHX.out.a.its)
  have HJS : Hid (IsOk w12 w12.heap.size jA im jc y2.its) := Lib.hid (by
    have h1 := HHX.out.b.its
    rw [HIM.out] at h1
    rw [hjA, him, hjc]
    exact h1)
  have HKL : Hid (KeepL m0 m1 (y.its.map It.p) (y2.its.map It.p)) := Lib.hid HHX.out.its
  have HMA12 := Lib.hid (HMA11.out.bel hb12)
  have HVB12 : Hid (Bk w12 vA 52 #[.slice y2.kA y2.kn y2.kc, .slice y2.gA y2.gn y2.gc, .slice jA im jc]) := Lib.hid (by rw [hjA, him, hjc, ← HIM.out]; exact HVB11.out.bel hb12)
  have a2 : w12.cell? ⟨wA, 2, none⟩ = some (.slice iA im ic) := by rw [hiA, him, hic]; exact (HWB11.out.bel hb12).cell 2
  have HB12 : Hid (Below w.heap.size w w12) := Lib.hid (HB11.out.trans (hb12.mono HB11.out.size))
  obtain ⟨l1, hl1⟩ : ∃ z, z = y.its := ⟨_, rfl⟩
  obtain ⟨l2, hl2⟩ : ∃ z, z = y2.its := ⟨_, rfl⟩
  obtain ⟨U0, hU0⟩ : ∃ z, z = Value.slice y2.kA y2.kn y2.kc := ⟨_, rfl⟩
  obtain ⟨U1, hU1⟩ : ∃ z, z = Value.slice y2.gA y2.gn y2.gc := ⟨_, rfl⟩
  rw [← hl1] at HIS HKL
  rw [← hl2] at HJS HKL
  rw [← hU0, ← hU1] at HVB12
  have hI1 : im ≤ ic := HIS.out.cap
  have hI2 : ic ≤ 9223372036854775807 := HIS.out.cap2
  have hJ1 : im ≤ jc := HJS.out.cap
  have hJ2 : jc ≤ 9223372036854775807 := HJS.out.cap2
  clear hiA him hic hjA hjc hb12 HMA11 HVB11 HWB11 HH11 HB11 hl1 hl2 hU0 hU1 HHX HIM HCV HMV HKP
  go_wp2_with fail
  clear a2
  go_loopw [83] (fun iv wx => ∃ i : Nat, i ≤ im ∧ iv = .int .i64 i ∧ Hid (Below w12.heap.size w12 wx)) (fun iv _ => im - (intOf iv).toNat)
  case atStart => exact ⟨0, Nat.zero_le _, rfl, Lib.hid (Below.refl _ _)⟩
  case round =>
    obtain ⟨i, hi, rfl, HW⟩ := hrel
    by_cases hlt : i < im
    · obtain ⟨x, hx⟩ : ∃ z, l1[i]? = some z := ⟨_, List.getElem?_eq_getElem (by rw [← HIS.out.len]; exact hlt)⟩
      obtain ⟨x2, hx2⟩ : ∃ z, l2[i]? = some z := ⟨_, List.getElem?_eq_getElem (by rw [← HJS.out.len]; exact hlt)⟩
      have HIr : Hid (IsOk wr w12.heap.size iA im ic l1) := Lib.hid (HIS.out.below HW.out)
      have HJr : Hid (IsOk wr w12.heap.size jA im jc l2) := Lib.hid (HJS.out.below HW.out)
      have HVr := Lib.hid (HVB12.out.bel HW.out)
      have HMr := Lib.hid (HMA12.out.bel HW.out)
      have hkc := HKL.out.2 i x.p x2.p (by rw [List.getElem?_map, hx]; rfl) (by rw [List.getElem?_map, hx2]; rfl)
      have hxe : x2.e = x.e ∧ x2.g = x.g := by
        have h1 := hkc.1
        have h2 := congrArg Prod.fst h1
        have h3 := congrArg Prod.snd h1
        exact ⟨h2, h3⟩
      have hxo := HIr.out.ok x (List.mem_of_getElem? hx)
      have hxo2 := HJr.out.ok x2 (List.mem_of_getElem? hx2)
      have hxn : x2.n = x.n := by
        have h1 := hkc.2.1
        rw [hxo.cs.len, hxo2.cs.len]
        simpa [It.p] using h1
      have HXX : Hid (l1[i]? = some x ∧ l2[i]? = some x2 ∧ KeepC m0 m1 x.p x2.p) := Lib.hid ⟨hx, hx2, hkc⟩
      have HXO : Hid (ItOk wr w12.heap.size x) := Lib.hid hxo
      have HSZ : Hid (w12.heap.size ≤ wr.heap.size) := Lib.hid HW.out.size
      have hiz : (i : Int) < im := by omega
      have hiz0 : (0 : Int) ≤ i := by omega
      obtain ⟨ib, io, hiA, hib, i0, i1, i2⟩ := Rd.it HIr.out.rd hlt hx
      obtain ⟨jb, jo, hjA, hjb, j0, j1, j2⟩ := Rd.it HJr.out.rd hlt hx2
      subst hiA
      subst hjA
      rw [hxe.1] at j0
      rw [hxe.2] at j1
      rw [hxn] at j2
      have hxc1 := hxo.cs.cap
      have hxc2 := hxo.cs.cap2
      have v2 : wr.cell? ⟨vA, 2, none⟩ = some (.slice (some ⟨jb, jo, none⟩) im jc) := HVr.out.cell 2
      obtain ⟨ia, hia⟩ : ∃ z, z = wr.heap.size := ⟨_, rfl⟩
      obtain ⟨W13, hW13⟩ : ∃ z, z = wr.alloc (.cells #[.int .i64 x.e, .int .i64 x.g, .slice x.A x.n x.c] 147) := ⟨_, rfl⟩
      have hb13 : Below wr.heap.size wr W13 := by rw [hW13]; exact (Below.refl _ _).alloc (Nat.le_refl _) _
      have HIA : Hid (Bk W13 ia 147 #[.int .i64 x.e, .int .i64 x.g, .slice x.A x.n x.c]) := Lib.hid (by rw [hW13, hia]; exact Bk.new _ _ _)
      have HSX : Hid (W13.cell? ⟨vA, 2, none⟩ = some (.slice (some ⟨jb, jo, none⟩) im jc) ∧ W13.cell? ⟨jb, jo + i * 3, none⟩ = some (.int .i64 x.e) ∧ W13.cell? ⟨jb, jo + i * 3 + 1, none⟩ = some (.int .i64 x.g) ∧ W13.cell? ⟨jb, jo + i * 3 + 2, none⟩ = some (.slice x2.A x.n x2.c) ∧ W13.cell? ⟨ia, 0, none⟩ = some (.int .i64 x.e) ∧ W13.cell? ⟨ia, 1, none⟩ = some (.int .i64 x.g) ∧ W13.cell? ⟨ia, 2, none⟩ = some (.slice x.A x.n x.c)) := Lib.hid (by
        have hw : ∀ p u, wr.cell? p = some u → W13.cell? p = some u := fun p u h => (hb13.cell (World.block_lt_of_cell? _ _ h)).trans h
        exact ⟨hw _ _ v2, hw _ _ j0, hw _ _ j1, hw _ _ j2, HIA.out.cell 0, HIA.out.cell 1, HIA.out.cell 2⟩)
      have HB13 : Hid (Below w12.heap.size w12 W13) := Lib.hid (HW.out.trans (hb13.mono HSZ.out))
      clear hx hx2 hkc hxe hxo hxo2 hxn hib hjb j0 j1 j2 hb13 HW v2 HIr HJr HVr HMr HXO
      go_upto_region 11 with fail
      rw [← hW13, ← hia]
      clear hW13 hia i0 i1 i2
      obtain ⟨W14, hW14⟩ : ∃ z, z = W13.drew := ⟨_, rfl⟩
      have HSS : Hid (W14.cell? ⟨vA, 2, none⟩ = some (.slice (some ⟨jb, jo, none⟩) im jc) ∧ W14.cell? ⟨jb, jo + i * 3, none⟩ = some (.int .i64 x.e) ∧ W14.cell? ⟨jb, jo + i * 3 + 1, none⟩ = some (.int .i64 x.g) ∧ W14.cell? ⟨jb, jo + i * 3 + 2, none⟩ = some (.slice x2.A x.n x2.c) ∧ W14.cell? ⟨ia, 0, none⟩ = some (.int .i64 x.e) ∧ W14.cell? ⟨ia, 1, none⟩ = some (.int .i64 x.g) ∧ W14.cell? ⟨ia, 2, none⟩ = some (.slice x.A x.n x.c)) := Lib.hid (by rw [hW14]; exact HSX.out)
      have HB14 : Hid (Below w12.heap.size w12 W14) := Lib.hid (by rw [hW14]; exact ⟨HB13.out.os, HB13.out.tape, HB13.out.output, HB13.out.size, HB13.out.block⟩)
      have HIA14 : Hid (Bk W14 ia 147 #[.int .i64 x.e, .int .i64 x.g, .slice x.A x.n x.c]) := Lib.hid (by rw [hW14]; exact HIA.out)
      have hq := fun wx => eq128_same x.e x.g wx
      clear HIA HSX HB13
      (try refine wp_region_noPanic ?_)
      refine wp_region_H (S := fun wz => wz.cell? ⟨vA, 2, none⟩ = some (.slice (some ⟨jb, jo, none⟩) im jc) ∧ wz.cell? ⟨jb, jo + i * 3, none⟩ = some (.int .i64 x.e) ∧ wz.cell? ⟨jb, jo + i * 3 + 1, none⟩ = some (.int .i64 x.g) ∧ wz.cell? ⟨jb, jo + i * 3 + 2, none⟩ = some (.slice x2.A x.n x2.c) ∧ wz.cell? ⟨ia, 0, none⟩ = some (.int .i64 x.e) ∧ wz.cell? ⟨ia, 1, none⟩ = some (.int .i64 x.g) ∧ wz.cell? ⟨ia, 2, none⟩ = some (.slice x.A x.n x.c)) (by kernel_rfl) ?_
      rw [← hW14]
      clear hW14
      refine wpAnyH_val (i := 0) (v := .pointer (some ⟨vA, 2, none⟩)) (d := some 88) rfl rfl (by kernel_rfl) (by kernel_rfl) (by kernel_rfl) (fun _ _ _ h => h) (Or.inl ⟨by rfl, fun w hS => by (obtain ⟨h0, h1, h2, h3, h4, h5, h6⟩ := hS; go_simp)⟩) HSS.out ?_
      (try simp only [Act.put, List.setIfInBounds_toArray, List.set_cons_zero, List.set_cons_succ])
      refine wpAnyH_val (i := 1) (v := .slice (some ⟨jb, jo, none⟩) im jc) (d := some 89) rfl rfl (by kernel_rfl) (by kernel_rfl) (by kernel_rfl) (fun _ _ _ h => h) (Or.inl ⟨by rfl, fun w hS => by (obtain ⟨h0, h1, h2, h3, h4, h5, h6⟩ := hS; go_simp)⟩) HSS.out ?_
      (try simp only [Act.put, List.setIfInBounds_toArray, List.set_cons_zero, List.set_cons_succ])
      refine wpAnyH_val (i := 2) (v := .int .i64 (i : Int)) (d := some 90) rfl rfl (by kernel_rfl) (by kernel_rfl) (by kernel_rfl) (fun _ _ _ h => h) (Or.inl ⟨by rfl, fun w hS => by (obtain ⟨h0, h1, h2, h3, h4, h5, h6⟩ := hS; go_simp)⟩) HSS.out ?_
      (try simp only [Act.put, List.setIfInBounds_toArray, List.set_cons_zero, List.set_cons_succ])
      refine wpAnyH_val (i := 3) (v := .pointer (some ⟨jb, jo + i * 3, none⟩)) (d := some 91) rfl rfl (by kernel_rfl) (by kernel_rfl) (by kernel_rfl) (fun _ _ _ h => h) (Or.inl ⟨by rfl, fun w hS => by (obtain ⟨h0, h1, h2, h3, h4, h5, h6⟩ := hS; go_simp)⟩) HSS.out ?_
      (try simp only [Act.put, List.setIfInBounds_toArray, List.set_cons_zero, List.set_cons_succ])
      refine wpAnyH_val (i := 4) (v := .pointer (some ⟨jb, jo + i * 3, none⟩)) (d := some 92) rfl rfl (by kernel_rfl) (by kernel_rfl) (by kernel_rfl) (fun _ _ _ h => h) (Or.inl ⟨by rfl, fun w hS => by (obtain ⟨h0, h1, h2, h3, h4, h5, h6⟩ := hS; go_simp)⟩) HSS.out ?_
      (try simp only [Act.put, List.setIfInBounds_toArray, List.set_cons_zero, List.set_cons_succ])
      refine wpAnyH_val (i := 5) (v := .agg #[.int .i64 x.e, .int .i64 x.g]) (d := some 93) rfl rfl (by kernel_rfl) (by kernel_rfl) (by kernel_rfl) (fun _ _ _ h => h) (Or.inl ⟨by rfl, fun w hS => by (obtain ⟨h0, h1, h2, h3, h4, h5, h6⟩ := hS; go_simp)⟩) HSS.out ?_
      (try simp only [Act.put, List.setIfInBounds_toArray, List.set_cons_zero, List.set_cons_succ])
      refine wpAnyH_val (i := 6) (v := .pointer (some ⟨ia, 0, none⟩)) (d := some 94) rfl rfl (by kernel_rfl) (by kernel_rfl) (by kernel_rfl) (fun _ _ _ h => h) (Or.inl ⟨by rfl, fun w hS => by (obtain ⟨h0, h1, h2, h3, h4, h5, h6⟩ := hS; go_simp)⟩) HSS.out ?_
      (try simp only [Act.put, List.setIfInBounds_toArray, List.set_cons_zero, List.set_cons_succ])
      refine wpAnyH_val (i := 7) (v := .agg #[.int .i64 x.e, .int .i64 x.g]) (d := some 95) rfl rfl (by kernel_rfl) (by kernel_rfl) (by kernel_rfl) (fun _ _ _ h => h) (Or.inl ⟨by rfl, fun w hS => by (obtain ⟨h0, h1, h2, h3, h4, h5, h6⟩ := hS; go_simp)⟩) HSS.out ?_
      (try simp only [Act.put, List.setIfInBounds_toArray, List.set_cons_zero, List.set_cons_succ])
      refine wpAnyH_val (i := 8) (v := .bool false) (d := some 96) rfl rfl (by kernel_rfl) (by kernel_rfl) (by kernel_rfl) (fun _ _ _ h => h) (Or.inl ⟨by rfl, fun w hS => by (obtain ⟨h0, h1, h2, h3, h4, h5, h6⟩ := hS; go_simp)⟩) HSS.out ?_
      (try simp only [Act.put, List.setIfInBounds_toArray, List.set_cons_zero, List.set_cons_succ])
      refine wpAnyH_val (i := 9) (v := .bool false) (d := some 97) rfl rfl (by kernel_rfl) (by kernel_rfl) (by kernel_rfl) (fun _ _ _ h => h) (Or.inl ⟨by rfl, fun w hS => by (obtain ⟨h0, h1, h2, h3, h4, h5, h6⟩ := hS; go_simp)⟩) HSS.out ?_
      (try simp only [Act.put, List.setIfInBounds_toArray, List.set_cons_zero, List.set_cons_succ])
      refine wpAnyH_val (i := 10) (v := .pointer (some ⟨vA, 2, none⟩)) (d := some 98) rfl rfl (by kernel_rfl) (by kernel_rfl) (by kernel_rfl) (fun _ _ _ h => h) (Or.inl ⟨by rfl, fun w hS => by (obtain ⟨h0, h1, h2, h3, h4, h5, h6⟩ := hS; go_simp)⟩) HSS.out ?_
      (try simp only [Act.put, List.setIfInBounds_toArray, List.set_cons_zero, List.set_cons_succ])
      refine wpAnyH_val (i := 11) (v := .slice (some ⟨jb, jo, none⟩) im jc) (d := some 99) rfl rfl (by kernel_rfl) (by kernel_rfl) (by kernel_rfl) (fun _ _ _ h => h) (Or.inl ⟨by rfl, fun w hS => by (obtain ⟨h0, h1, h2, h3, h4, h5, h6⟩ := hS; go_simp)⟩) HSS.out ?_
      (try simp only [Act.put, List.setIfInBounds_toArray, List.set_cons_zero, List.set_cons_succ])
      refine wpAnyH_val (i := 12) (v := .int .i64 (i : Int)) (d := some 100) rfl rfl (by kernel_rfl) (by kernel_rfl) (by kernel_rfl) (fun _ _ _ h => h) (Or.inl ⟨by rfl, fun w hS => by (obtain ⟨h0, h1, h2, h3, h4, h5, h6⟩ := hS; go_simp)⟩) HSS.out ?_
      (try simp only [Act.put, List.setIfInBounds_toArray, List.set_cons_zero, List.set_cons_succ])
      refine wpAnyH_val (i := 13) (v := .pointer (some ⟨jb, jo + i * 3, none⟩)) (d := some 101) rfl rfl (by kernel_rfl) (by kernel_rfl) (by kernel_rfl) (fun _ _ _ h => h) (Or.inl ⟨by rfl, fun w hS => by (obtain ⟨h0, h1, h2, h3, h4, h5, h6⟩ := hS; go_simp)⟩) HSS.out ?_
      (try simp only [Act.put, List.setIfInBounds_toArray, List.set_cons_zero, List.set_cons_succ])
      refine wpAnyH_val (i := 14) (v := .pointer (some ⟨jb, jo + i * 3 + 2, none⟩)) (d := some 102) rfl rfl (by kernel_rfl) (by kernel_rfl) (by kernel_rfl) (fun _ _ _ h => h) (Or.inl ⟨by rfl, fun w hS => by (obtain ⟨h0, h1, h2, h3, h4, h5, h6⟩ := hS; go_simp)⟩) HSS.out ?_
      (try simp only [Act.put, List.setIfInBounds_toArray, List.set_cons_zero, List.set_cons_succ])
      refine wpAnyH_val (i := 15) (v := .slice x2.A x.n x2.c) (d := some 103) rfl rfl (by kernel_rfl) (by kernel_rfl) (by kernel_rfl) (fun _ _ _ h => h) (Or.inl ⟨by rfl, fun w hS => by (obtain ⟨h0, h1, h2, h3, h4, h5, h6⟩ := hS; go_simp)⟩) HSS.out ?_
      (try simp only [Act.put, List.setIfInBounds_toArray, List.set_cons_zero, List.set_cons_succ])
      refine wpAnyH_val (i := 16) (v := .int .i64 (x.n : Int)) (d := some 104) rfl rfl (by kernel_rfl) (by kernel_rfl) (by kernel_rfl) (fun _ _ _ h => h) (Or.inl ⟨by rfl, fun w hS => by (obtain ⟨h0, h1, h2, h3, h4, h5, h6⟩ := hS; go_simp)⟩) HSS.out ?_
      (try simp only [Act.put, List.setIfInBounds_toArray, List.set_cons_zero, List.set_cons_succ])
      refine wpAnyH_val (i := 17) (v := .pointer (some ⟨ia, 2, none⟩)) (d := some 105) rfl rfl (by kernel_rfl) (by kernel_rfl) (by kernel_rfl) (fun _ _ _ h => h) (Or.inl ⟨by rfl, fun w hS => by (obtain ⟨h0, h1, h2, h3, h4, h5, h6⟩ := hS; go_simp)⟩) HSS.out ?_
      (try simp only [Act.put, List.setIfInBounds_toArray, List.set_cons_zero, List.set_cons_succ])
      refine wpAnyH_val (i := 18) (v := .slice x.A x.n x.c) (d := some 106) rfl rfl (by kernel_rfl) (by kernel_rfl) (by kernel_rfl) (fun _ _ _ h => h) (Or.inl ⟨by rfl, fun w hS => by (obtain ⟨h0, h1, h2, h3, h4, h5, h6⟩ := hS; go_simp)⟩) HSS.out ?_
      (try simp only [Act.put, List.setIfInBounds_toArray, List.set_cons_zero, List.set_cons_succ])
      refine wpAnyH_val (i := 19) (v := .int .i64 (x.n : Int)) (d := some 107) rfl rfl (by kernel_rfl) (by kernel_rfl) (by kernel_rfl) (fun _ _ _ h => h) (Or.inl ⟨by rfl, fun w hS => by (obtain ⟨h0, h1, h2, h3, h4, h5, h6⟩ := hS; go_simp)⟩) HSS.out ?_
      (try simp only [Act.put, List.setIfInBounds_toArray, List.set_cons_zero, List.set_cons_succ])
      refine wpAnyH_val (i := 20) (v := .bool false) (d := some 108) rfl rfl (by kernel_rfl) (by kernel_rfl) (by kernel_rfl) (fun _ _ _ h => h) (Or.inl ⟨by rfl, fun w hS => by (obtain ⟨h0, h1, h2, h3, h4, h5, h6⟩ := hS; go_simp)⟩) HSS.out ?_
      (try simp only [Act.put, List.setIfInBounds_toArray, List.set_cons_zero, List.set_cons_succ])
      refine wpAnyH_val (i := 21) (v := .bool false) (d := some 109) rfl rfl (by kernel_rfl) (by kernel_rfl) (by kernel_rfl) (fun _ _ _ h => h) (Or.inl ⟨by rfl, fun w hS => by (obtain ⟨h0, h1, h2, h3, h4, h5, h6⟩ := hS; go_simp)⟩) HSS.out ?_
      (try simp only [Act.put, List.setIfInBounds_toArray, List.set_cons_zero, List.set_cons_succ])
      refine wpAnyH_done (by kernel_rfl) ?_ _
      (try refine NoPanic.normal ?_)
      clear hq
      have q2 : W14.cell? ⟨ia, 2, none⟩ = some (.slice x.A x.n x.c) := HSS.out.2.2.2.2.2.2
      go_wp2_with fail
      clear q2
      go_loopw [113] (fun jv wx => ∃ j : Nat, j ≤ x.n ∧ jv = .int .i64 j ∧ Hid (Below w12.heap.size w12 wx)) (fun jv _ => x.n - (intOf jv).toNat)
      case atStart => exact ⟨0, Nat.zero_le _, rfl, HB14⟩
      case round =>
        obtain ⟨j, hj, rfl, HW⟩ := hrel
        by_cases hlt2 : j < x.n
        · have HIr : Hid (IsOk wr w12.heap.size (some ⟨ib, io, none⟩) im ic l1) := Lib.hid (HIS.out.below HW.out)
          have HJr : Hid (IsOk wr w12.heap.size (some ⟨jb, jo, none⟩) im jc l2) := Lib.hid (HJS.out.below HW.out)
          have HVr := Lib.hid (HVB12.out.bel HW.out)
          have HMr := Lib.hid (HMA12.out.bel HW.out)
          have hcl := (HIr.out.ok x (List.mem_of_getElem? HXX.out.1)).cs
          obtain ⟨c, hc⟩ : ∃ z, x.cms[j]? = some z := ⟨_, List.getElem?_eq_getElem (by rw [← hcl.len]; exact hlt2)⟩
          obtain ⟨d, hd⟩ : ∃ z, x2.cms[j]? = some z := ⟨_, List.getElem?_eq_getElem (by
            have h1 := HXX.out.2.2.2.1
            have h2 : x2.cms.length = x.cms.length := by simpa [It.p] using h1
            rw [h2, ← hcl.len]
            exact hlt2)⟩
          have hcd := HXX.out.2.2.2.2 j c.p d.p (by show (x.cms.map Cm.p)[j]? = _; rw [List.getElem?_map, hc]; rfl) (by show (x2.cms.map Cm.p)[j]? = _; rw [List.getElem?_map, hd]; rfl)
          have HCC : Hid (CsOk wr w12.heap.size x.A x.n x.c x.cms ∧ x.cms[j]? = some c ∧ x2.cms[j]? = some d ∧ d.k = c.k ∧ (c.k ≠ m0 → c.k ≠ m1 → d.vals = c.vals)) := Lib.hid ⟨hcl, hc, hd, hcd.1, hcd.2⟩
          have hjz : (j : Int) < x.n := by omega
          have hjz0 : (0 : Int) ≤ j := by omega
          clear hcl hc hd hcd
          go_upto_if 114 with fail
          first
          | (refine bkCm_any HCC.out.1 HCC.out.2.1 HJr.out HXX.out.2.1 HCC.out.2.2.1 HCC.out.2.2.2.1 HCC.out.2.2.2.2 HVr.out HMr.out ?_)
          | (go_step; refine bkCm_any HCC.out.1 HCC.out.2.1 HJr.out HXX.out.2.1 HCC.out.2.2.1 HCC.out.2.2.2.1 HCC.out.2.2.2.2 HVr.out HMr.out ?_)
          | (go_step; go_step; refine bkCm_any HCC.out.1 HCC.out.2.1 HJr.out HXX.out.2.1 HCC.out.2.2.1 HCC.out.2.2.2.1 HCC.out.2.2.2.2 HVr.out HMr.out ?_)
          | (go_step; go_step; go_step; refine bkCm_any HCC.out.1 HCC.out.2.1 HJr.out HXX.out.2.1 HCC.out.2.2.1 HCC.out.2.2.2.1 HCC.out.2.2.2.2 HVr.out HMr.out ?_)
          | (go_step; go_step; go_step; go_step; refine bkCm_any HCC.out.1 HCC.out.2.1 HJr.out HXX.out.2.1 HCC.out.2.2.1 HCC.out.2.2.2.1 HCC.out.2.2.2.2 HVr.out HMr.out ?_)
          | (go_step; go_step; go_step; go_step; go_step; refine bkCm_any HCC.out.1 HCC.out.2.1 HJr.out HXX.out.2.1 HCC.out.2.2.1 HCC.out.2.2.2.1 HCC.out.2.2.2.2 HVr.out HMr.out ?_)
          intros
          rename_i w15 H15
          have HW2 : Hid (Below w12.heap.size w12 w15) := Lib.hid (HW.out.trans (H15.out.mono HW.out.size))
          clear HW H15 HIr HJr HVr HMr HCC
          go_wp2_with fail
          go_roundw
          case measure => simp [intOf]; omega
          case rel => exact ⟨j + 1, by omega, by go_num, HW2⟩
        · obtain rfl : x.n = j := by omega
          go_wp2_with fail
          go_roundw
          case measure => simp [intOf]; omega
          case rel => exact ⟨i + 1, by omega, by go_num, HW⟩
    · obtain rfl : im = i := by omega
      go_wp2_with fail
      go_ret
      exact ⟨rfl, HB12.out.trans (HW.out.mono HB12.out.size)⟩
end Go.Proofs.Ytnidcmhfbkdioaa
