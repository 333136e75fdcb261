/-
  The walk of BridgeTwice. Conditions: what is read can be read.
-/
import Derived.Test.YtnidcmhfbkdioaaSz42
import Derived.Test.YtnidcmhfbkdioaaSz44
import Derived.Test.YtnidcmhfbkdioaaSz8
namespace Go.Proofs.Ytnidcmhfbkdioaa
open Go.RowKit
set_option maxRecDepth 100000
/-- The world of a round: drawn, or written. -/
structure TwI (w : World) (wA gA nk : Nat) (G : Array Value) (y : Wd) (i : Nat) : Prop where
  b : Bk w wA 52 #[.slice y.kA y.kn y.kc, .slice y.gA y.gn y.gc, .slice y.iA y.im y.ic]
  g : Bk w gA 110 G
  wy : WdOk w w.heap.size y
  v : VW holdK y.p
  k : y.ks.map Kd.p = kindsN nk
  n : nk < 8
  l : y.its.length ≤ 5
  still : 0 < i → ∀ m0 m1 m2, mapF (kindsN nk) = ((m0, m1, m2), 0) → Still m0 m1 m2 (kdAt y.p.ks m0) (kdAt y.p.ks m1) y.p.its
theorem TwI.below {w w' : World} {wA gA nk i : Nat} {G : Array Value} {y : Wd} (h : TwI w wA gA nk G y i) (hb : Below w.heap.size w w') : TwI w' wA gA nk G y i := ⟨h.b.bel hb, h.g.bel hb, h.wy.fresh hb, h.v, h.k, h.n, h.l, h.still⟩
set_option maxHeartbeats 16000000 in
theorem bridgeTwice_any {w : World} {ln lc xn xc : Nat} {lA xA : Option Addr} {ls xs : List Int}
    (hl : Rd w w.heap.size 1 lA ln (ls.map (Value.int .i64))) (hln : ln = ls.length) (hlc : ln ≤ lc) (hlc2 : lc ≤ 9223372036854775807) (hlz : ∀ z ∈ ls, (Lit.int .i64 z).wf = true)
    (hx : Rd w w.heap.size 1 xA xn (xs.map (Value.int .i64))) (hxn : xn = xs.length) (hxc : xn ≤ xc) (hxc2 : xc ≤ 9223372036854775807) (hxz : ∀ z ∈ xs, (Lit.int .i64 z).wf = true) :
    Calls Try.prog 16 #[.slice lA ln lc, .slice xA xn xc] w fun e w' => e = .returned (.bool true) ∧ Below w.heap.size w w' := by
  have HGA : Hid (Calls Try.prog 55 #[.slice lA ln lc] w _) := Lib.hid (game_any lA ln lc w.heap.size ls w hl hln hlc hlc2 hlz (Nat.le_refl _))
  have HXS := Lib.hid (And.intro hx (And.intro hxn (And.intro hxc (And.intro hxc2 hxz))))
  clear hl hln hlc hlc2 hlz hx hxn hxc hxc2 hxz
  go_enter Try.func16, Try.ntmps16
  go_wp2_with fail
  (with_reducible refine HGA.out.mono ?_)
  rintro e w1 ⟨kA, sA, pA, kn, kc, sn, sc, pn, pc, nk, ks, pl, seed, gy, stp, fuel, rfl, hg1, hb1⟩
  have HG1 := hg1
  clear hg1 HGA
  obtain ⟨gA, hgA⟩ : ∃ z, z = w1.heap.size := ⟨_, rfl⟩
  obtain ⟨W2, hW2⟩ : ∃ z, z = w1.alloc (.cells #[.slice kA kn kc, .slice sA sn sc, .slice pA pn pc, .int .i64 pl, .int .i64 seed, .int .i64 0, .int .i64 gy, .int .i64 stp, .int .i64 fuel] 110) := ⟨_, rfl⟩
  have hb12 : Below w1.heap.size w1 W2 := by rw [hW2]; exact (Below.refl _ _).alloc (Nat.le_refl _) _
  have HGB : Hid (Bk W2 gA 110 #[.slice kA kn kc, .slice sA sn sc, .slice pA pn pc, .int .i64 pl, .int .i64 seed, .int .i64 0, .int .i64 gy, .int .i64 stp, .int .i64 fuel]) := Lib.hid (by rw [hW2, hgA]; exact Bk.new _ _ _)
  have HB2 : Hid (Below w.heap.size w W2) := Lib.hid (hb1.trans (hb12.mono hb1.size))
  have HKS : Hid (KsY W2 0 kA kn kc ks) := Lib.hid (HG1.out.1.keep (F := []) (Kx.of_below hb12) (by simp) (by simp))
  have HKW : Hid (Calls Try.prog 54 #[.agg #[.slice kA kn kc, .slice sA sn sc, .slice pA pn pc, .int .i64 pl, .int .i64 seed, .int .i64 0, .int .i64 gy, .int .i64 stp, .int .i64 fuel], .slice xA xn xc] W2 _) := Lib.hid (kworld_any xA xn xc w.heap.size xs W2 (HXS.out.1.below HB2.out) HXS.out.2.1 HXS.out.2.2.1 HXS.out.2.2.2.1 HXS.out.2.2.2.2 HB2.out.size HKS.out
    (fun k hk => kindsN_one nk HG1.out.2.2.1 k.p (by rw [← HG1.out.2.1]; exact List.mem_map_of_mem hk)) (fun k hk => kindsN_place nk HG1.out.2.2.1 k.p (by rw [← HG1.out.2.1]; exact List.mem_map_of_mem hk)) (by
      have h1 := kindsN_len nk HG1.out.2.2.1
      have h2 := HG1.out.1.len
      have h3 := congrArg List.length HG1.out.2.1
      rw [List.length_map] at h3
      omega))
  clear hb1 hb12
  go_upto_region 2 with fail
  rw [← hW2, ← hgA]
  clear hW2 hgA
  have g0 : W2.cell? ⟨gA, 0, none⟩ = some (.slice kA kn kc) := HGB.out.cell 0
  have g1 : W2.cell? ⟨gA, 1, none⟩ = some (.slice sA sn sc) := HGB.out.cell 1
  have g2 : W2.cell? ⟨gA, 2, none⟩ = some (.slice pA pn pc) := HGB.out.cell 2
  have g3 : W2.cell? ⟨gA, 3, none⟩ = some (.int .i64 pl) := HGB.out.cell 3
  have g4 : W2.cell? ⟨gA, 4, none⟩ = some (.int .i64 seed) := HGB.out.cell 4
  have g5 : W2.cell? ⟨gA, 5, none⟩ = some (.int .i64 0) := HGB.out.cell 5
  have g6 : W2.cell? ⟨gA, 6, none⟩ = some (.int .i64 gy) := HGB.out.cell 6
  have g7 : W2.cell? ⟨gA, 7, none⟩ = some (.int .i64 stp) := HGB.out.cell 7
  have g8 : W2.cell? ⟨gA, 8, none⟩ = some (.int .i64 fuel) := HGB.out.cell 8
  go_wp2_with fail
  (with_reducible refine HKW.out.mono ?_)
  rintro e w3 ⟨y, rfl, hy, hb3⟩
  clear g0 g1 g2 g3 g4 g5 g6 g7 g8 HKW
  obtain ⟨⟨⟨m0, m1, m2⟩, mv⟩, hmv⟩ : ∃ z, z = mapF (y.ks.map Kd.p) := ⟨_, rfl⟩
  have hyk : y.ks.map Kd.p = kindsN nk := by rw [hy.out.2.2.2.2.1]; exact HG1.out.2.1
  have hmv0 : mv = 0 := by
    have h1 := kindsN_map nk HG1.out.2.2.1
    rw [← hyk, ← hmv] at h1
    exact h1
  subst hmv0
  have hck : checkF y.p.ks = 0 := by show checkF (y.ks.map Kd.p) = 0; rw [hyk]; exact kindsN_check nk HG1.out.2.2.1
  have hcv : wcheckF y.p = 0 := check_of hck hy.out.1.2
  have HMV : Hid (mapF (y.ks.map Kd.p) = ((m0, m1, m2), 0)) := Lib.hid hmv.symm
  have HCV : Hid (checkF y.p.ks = 0 ∧ wcheckF y.p = 0 ∧ VW holdK y.p ∧ y.its.length ≤ 5) := Lib.hid ⟨hck, hcv, hy.out.1.2, hy.out.2.2.2.2.2.1⟩
  obtain ⟨wA, hwA⟩ : ∃ z, z = w3.heap.size := ⟨_, rfl⟩
  obtain ⟨W4, hW4⟩ : ∃ z, z = w3.alloc (.cells #[.slice y.kA y.kn y.kc, .slice y.gA y.gn y.gc, .slice y.iA y.im y.ic] 52) := ⟨_, rfl⟩
  have hb34 : Below w3.heap.size w3 W4 := by rw [hW4]; exact (Below.refl _ _).alloc (Nat.le_refl _) _
  have hb24 : Below W2.heap.size W2 W4 := hb3.trans (hb34.mono hb3.size)
  have HTW : Hid (TwI W4 wA gA nk #[.slice kA kn kc, .slice sA sn sc, .slice pA pn pc, .int .i64 pl, .int .i64 seed, .int .i64 0, .int .i64 gy, .int .i64 stp, .int .i64 fuel] y 0) := Lib.hid ⟨by rw [hW4, hwA]; exact Bk.new _ _ _, HGB.out.bel hb24, (hy.out.1.1.ok_).fresh hb34, hy.out.1.2, hyk, HG1.out.2.2.1, hy.out.2.2.2.2.2.1, fun h => absurd h (Nat.lt_irrefl 0)⟩
  have HB4 : Hid (Below w.heap.size w W4 ∧ w.heap.size ≤ wA) := Lib.hid ⟨HB2.out.trans (hb24.mono HB2.out.size), by rw [hwA]; have h1 := HB2.out.size; have h2 := hb3.size; omega⟩
  have HMN : Hid (mapF (kindsN nk) = ((m0, m1, m2), 0)) := Lib.hid (by rw [← hyk]; exact hmv.symm)
  clear hmv hyk hck hcv hy hb3 hb34 hb24 HKS HGB HB2 HMV HCV
  simp only [Wd.v]
  go_upto_region 3 with fail
  rw [← hW4, ← hwA]
  clear hW4 hwA
  go_wp2_with fail
  go_loopw [19] (fun iv wx => ∃ (i : Nat) (y1 : Wd), i ≤ 2 ∧ iv = .int .i64 i ∧ Hid (TwI wx wA gA nk #[.slice kA kn kc, .slice sA sn sc, .slice pA pn pc, .int .i64 pl, .int .i64 seed, .int .i64 0, .int .i64 gy, .int .i64 stp, .int .i64 fuel] y1 i ∧ Below w.heap.size w wx)) (fun iv _ => 2 - (intOf iv).toNat)
  case atStart => exact ⟨0, y, by omega, rfl, Lib.hid ⟨HTW.out, HB4.out.1⟩⟩
  case round =>
    clear HTW
    obtain ⟨i, y1, hi, rfl, HT⟩ := hrel
    by_cases hlt : i < 2
    · have hiz : (i : Int) < 2 := by omega
      have HCV : Hid (checkF y1.p.ks = 0 ∧ wcheckF y1.p = 0) := Lib.hid (by
        have h1 : checkF y1.p.ks = 0 := by show checkF (y1.ks.map Kd.p) = 0; rw [HT.out.1.k]; exact kindsN_check nk HT.out.1.n
        exact ⟨h1, check_of h1 HT.out.1.v⟩)
      have HMV : Hid (mapF (y1.ks.map Kd.p) = ((m0, m1, m2), 0)) := Lib.hid (by rw [HT.out.1.k]; exact HMN.out)
      have HSC : Hid (Calls Try.prog 56 #[.agg #[.slice y1.kA y1.kn y1.kc, .slice y1.gA y1.gn y1.gc, .slice y1.iA y1.im y1.ic], .slice none 0 0, .agg #[.int .i64 0, .int .i64 gy], .int .i64 stp] wr (ScP wr 0 0 0 gy stp (bodiesF m0 m1 m2 y1.its) (ctsF (slotM ((bodiesF m0 m1 m2 y1.its).map Prod.snd) 0 fun _ => none) []))) := Lib.hid
        (scene_any (cl := []) HT.out.1.wy ⟨rfl, fun h => absurd h (by omega)⟩ rfl (Nat.le_refl _) (by omega) (by omega) (fun c hc => by cases hc) HCV.out.2.symm HMV.out (fun _ _ it hit => by
          have h := itv_of HT.out.1.wy HCV.out.2 HMV.out it hit
          exact ⟨h.v0, h.v1, h.v2⟩))
      have a0 : wr.cell? ⟨wA, 0, none⟩ = some (.slice y1.kA y1.kn y1.kc) := HT.out.1.b.cell 0
      have a1 : wr.cell? ⟨wA, 1, none⟩ = some (.slice y1.gA y1.gn y1.gc) := HT.out.1.b.cell 1
      have a2 : wr.cell? ⟨wA, 2, none⟩ = some (.slice y1.iA y1.im y1.ic) := HT.out.1.b.cell 2
      have g5 : wr.cell? ⟨gA, 5, none⟩ = some (.int .i64 0) := HT.out.1.g.cell 5
      have g6 : wr.cell? ⟨gA, 6, none⟩ = some (.int .i64 gy) := HT.out.1.g.cell 6
      have g7 : wr.cell? ⟨gA, 7, none⟩ = some (.int .i64 stp) := HT.out.1.g.cell 7
      go_wp2_with fail
      (with_reducible refine HSC.out.mono ?_)
      rintro e w5 ⟨hb5, hr⟩
      clear a0 a1 a2 g5 g6 g7 HSC
      have hq64 : (bodiesF m0 m1 m2 y1.its).length ≤ 64 := by
        have h1 : (bodiesF m0 m1 m2 y1.its).length ≤ y1.its.length := by unfold bodiesF; exact List.length_filterMap_le _ _
        have h2 := HT.out.1.l
        omega
      rcases hr with ⟨hc0, rfl⟩ | ⟨hc0, hm0, rfl⟩ | ⟨hc0, hm0, hq, rfl⟩ | ⟨hc0, hm0, hq, bA, bn, bc, cA, cn, cc, E, ec, rfl, hR⟩
      · exact absurd rfl hc0
      · exact absurd rfl hm0
      · omega
      clear hc0 hm0 hq hq64
      obtain ⟨zA, hzA⟩ : ∃ z, z = w5.heap.size := ⟨_, rfl⟩
      obtain ⟨W6, hW6⟩ : ∃ z, z = w5.alloc (.cells #[.slice bA bn bc, .slice none 0 0, .slice cA cn cc, .int .i64 0, .int .i64 gy, .int .i64 stp] 115) := ⟨_, rfl⟩
      have hb56 : Below w5.heap.size w5 W6 := by rw [hW6]; exact (Below.refl _ _).alloc (Nat.le_refl _) _
      have hb46 : Below wr.heap.size wr W6 := hb5.trans (hb56.mono hb5.size)
      have HZB : Hid (Bk W6 zA 115 #[.slice bA bn bc, .slice none 0 0, .slice cA cn cc, .int .i64 0, .int .i64 gy, .int .i64 stp]) := Lib.hid (by rw [hW6, hzA]; exact Bk.new _ _ _)
      have HT6 : Hid (TwI W6 wA gA nk #[.slice kA kn kc, .slice sA sn sc, .slice pA pn pc, .int .i64 pl, .int .i64 seed, .int .i64 0, .int .i64 gy, .int .i64 stp, .int .i64 fuel] y1 i ∧ Below w.heap.size w W6) := Lib.hid ⟨HT.out.1.below hb46, HT.out.2.trans (hb46.mono HT.out.2.size)⟩
      have HR6 : Hid (ScR W6 wr.heap.size bA bn bc cA cn cc E ec (bodiesF m0 m1 m2 y1.its) (ctsF (slotM ((bodiesF m0 m1 m2 y1.its).map Prod.snd) 0 fun _ => none) [])) := Lib.hid (hR.below hb56)
      clear hb5 hb56 hb46 hR HT
      go_upto_region 7 with fail
      rw [← hW6, ← hzA]
      clear hW6 hzA
      obtain ⟨bl, hbm, hbq⟩ := HR6.out.bm
      have hown := HR6.out.ct
      have hcn0 : cn = 0 := by
        have h1 := hown.1
        simp [ctsF, ctCs] at h1
        omega
      subst hcn0
      obtain ⟨R, hRd⟩ : ∃ z, z = ((bodiesF m0 m1 m2 y1.its).map Prod.snd).zip (bl.map Bm.by_) := ⟨_, rfl⟩
      have HBW : Hid (Calls Try.prog 66 #[.agg #[.slice y1.kA y1.kn y1.kc, .slice y1.gA y1.gn y1.gc, .slice y1.iA y1.im y1.ic], .agg #[.slice bA bn bc, .slice none 0 0, .slice cA 0 cc, .int .i64 0, .int .i64 gy, .int .i64 stp], .slice E bn ec] W6 (BwP W6 0 0 bn bn m0 m1 (kdAt y1.p.ks m0) (kdAt y1.p.ks m1) y1.p R ((bodiesF m0 m1 m2 y1.its).map Prod.snd) [])) := Lib.hid (by
        rw [hRd]
        refine bworld_any (cl := []) HT6.out.1.wy ?_ ?_ (own_cap2 hbm.own).1 (own_cap2 hbm.own).2 ⟨rfl, fun h => absurd h (by omega)⟩ rfl (Nat.zero_le _) (own_cap2 hown).2 (by omega) (Rd.of_own HR6.out.en) (by rw [List.length_map]; exact HR6.out.len) (own_cap2 HR6.out.en).1 (own_cap2 HR6.out.en).2 HCV.out.2.symm HMV.out (fun _ => small_of HCV.out.1 HT6.out.1.v) (fun _ _ => PlOk.of_valid HT6.out.1.v HCV.out.1 HMV.out) (fun _ _ => mapF_kd HMV.out)
        · rw [byCs_bm]; exact Rd.of_own hbm.own
        · rw [List.length_map]; exact hbm.len)
      have HGOOD : Hid (∀ i r, R[i]? = some r → bwBad m0 (bwF m0 m1 (kdAt y1.p.ks m0) (kdAt y1.p.ks m1) y1.p.its (R.take i)) r.1 = false) := Lib.hid (by rw [hRd]; exact scene_good HT6.out.1.v _)
      have HRS : Hid (RsOf m0 m1 m2 y1.p.its R) := Lib.hid (by rw [hRd]; exact rsOf_scene hbq (bodies_slots HCV.out.2 m0 m1 m2))
      clear hbm hbq hown hRd HR6
      have a0 : W6.cell? ⟨wA, 0, none⟩ = some (.slice y1.kA y1.kn y1.kc) := HT6.out.1.b.cell 0
      have a1 : W6.cell? ⟨wA, 1, none⟩ = some (.slice y1.gA y1.gn y1.gc) := HT6.out.1.b.cell 1
      have a2 : W6.cell? ⟨wA, 2, none⟩ = some (.slice y1.iA y1.im y1.ic) := HT6.out.1.b.cell 2
      have z0 : W6.cell? ⟨zA, 0, none⟩ = some (.slice bA bn bc) := HZB.out.cell 0
      have z1 : W6.cell? ⟨zA, 1, none⟩ = some (.slice none 0 0) := HZB.out.cell 1
      have z2 : W6.cell? ⟨zA, 2, none⟩ = some (.slice cA 0 cc) := HZB.out.cell 2
      have z3 : W6.cell? ⟨zA, 3, none⟩ = some (.int .i64 0) := HZB.out.cell 3
      have z4 : W6.cell? ⟨zA, 4, none⟩ = some (.int .i64 gy) := HZB.out.cell 4
      have z5 : W6.cell? ⟨zA, 5, none⟩ = some (.int .i64 stp) := HZB.out.cell 5
      go_wp2_with fail
      (with_reducible refine HBW.out.mono ?_)
      rintro e w7 ⟨hb7, hr⟩
      clear a0 a1 a2 z0 z1 z2 z3 z4 z5 HBW
      rcases hr with ⟨hc0, rfl⟩ | ⟨_, hm0, rfl⟩ | ⟨_, _, hn, rfl⟩ | ⟨_, _, _, ⟨ib, r, hr1, hr2⟩, rfl⟩ | ⟨_, _, _, _, ⟨c, hc, _⟩, rfl⟩ | ⟨_, _, _, _, _, y2, qA, qn, qc, rfl, hqn, hY2⟩
      · exact absurd rfl hc0
      · exact absurd rfl hm0
      · exact absurd rfl hn
      · rw [HGOOD.out ib r hr1] at hr2; cases hr2
      · cases hc
      clear HGOOD hqn
      obtain ⟨vA, hvA⟩ : ∃ z, z = w7.heap.size := ⟨_, rfl⟩
      obtain ⟨W8, hW8⟩ : ∃ z, z = w7.alloc (.cells #[.slice y2.kA y2.kn y2.kc, .slice y2.gA y2.gn y2.gc, .slice y2.iA y2.im y2.ic] 52) := ⟨_, rfl⟩
      have hb78 : Below w7.heap.size w7 W8 := by rw [hW8]; exact (Below.refl _ _).alloc (Nat.le_refl _) _
      have hb68 : Below W6.heap.size W6 W8 := hb7.trans (hb78.mono hb7.size)
      have HVB : Hid (Bk W8 vA 52 #[.slice y2.kA y2.kn y2.kc, .slice y2.gA y2.gn y2.gc, .slice y2.iA y2.im y2.ic]) := Lib.hid (by rw [hW8, hvA]; exact Bk.new _ _ _)
      have HT8 : Hid (TwI W8 wA gA nk #[.slice kA kn kc, .slice sA sn sc, .slice pA pn pc, .int .i64 pl, .int .i64 seed, .int .i64 0, .int .i64 gy, .int .i64 stp, .int .i64 fuel] y1 i ∧ Below w.heap.size w W8) := Lib.hid ⟨HT6.out.1.below hb68, HT6.out.2.trans (hb68.mono HT6.out.2.size)⟩
      have HYY : Hid (y2.p = { y1.p with its := bwF m0 m1 (kdAt y1.p.ks m0) (kdAt y1.p.ks m1) y1.p.its R }) := Lib.hid hY2.out.2.1
      have HYW : Hid (WdY W8 0 y2) := Lib.hid (hY2.out.1.keep (F := []) (Kx.of_below hb78) (by simp) (by simp) (by simp) (by simp) (by simp))
      clear hb7 hb78 hb68 hY2 HT6 HZB
      simp only [Wd.v]
      go_upto_region 8 with fail
      rw [← hW8, ← hvA]
      clear hW8 hvA
      have HSTL : Hid (VW holdK y2.p ∧ Still m0 m1 m2 (kdAt y2.p.ks m0) (kdAt y2.p.ks m1) y2.p.its) := Lib.hid (by
        have h1 := still_of HT8.out.1.v (show y1.p.ks = kindsN nk from HT8.out.1.k) HT8.out.1.n HMV.out HRS.out
        rw [HYY.out]
        exact h1)
      have HFIN : Hid (y2.ks.map Kd.p = kindsN nk ∧ y2.its.length ≤ 5) := Lib.hid (by
        have h1 : y2.p.ks = y1.p.ks := by rw [HYY.out]
        have h2 : y2.p.its = bwF m0 m1 (kdAt y1.p.ks m0) (kdAt y1.p.ks m1) y1.p.its R := by rw [HYY.out]
        refine ⟨(show y2.ks.map Kd.p = y1.ks.map Kd.p from h1).trans HT8.out.1.k, ?_⟩
        have h3 := (KeepL.bwF (m0 := m0) (m1 := m1) (d0 := kdAt y1.p.ks m0) (d1 := kdAt y1.p.ks m1) R y1.p.its).1
        have h4 : y2.its.length = y2.p.its.length := (List.length_map _).symm
        have h5 : y1.p.its.length = y1.its.length := List.length_map _
        have h6 := HT8.out.1.l
        rw [h4, h2, h3, h5]
        exact h6)
      have b0 : W8.cell? ⟨wA, 0, none⟩ = some (.slice y1.kA y1.kn y1.kc) := HT8.out.1.b.cell 0
      have b1 : W8.cell? ⟨wA, 1, none⟩ = some (.slice y1.gA y1.gn y1.gc) := HT8.out.1.b.cell 1
      have b2 : W8.cell? ⟨wA, 2, none⟩ = some (.slice y1.iA y1.im y1.ic) := HT8.out.1.b.cell 2
      have c0 : W8.cell? ⟨vA, 0, none⟩ = some (.slice y2.kA y2.kn y2.kc) := HVB.out.cell 0
      have c1 : W8.cell? ⟨vA, 1, none⟩ = some (.slice y2.gA y2.gn y2.gc) := HVB.out.cell 1
      have c2 : W8.cell? ⟨vA, 2, none⟩ = some (.slice y2.iA y2.im y2.ic) := HVB.out.cell 2
      have hend : ∀ wx, Below W8.heap.size W8 wx → Hid (TwI (((wx.setCell ⟨wA, 0, none⟩ (.slice y2.kA y2.kn y2.kc)).setCell ⟨wA, 1, none⟩ (.slice y2.gA y2.gn y2.gc)).setCell ⟨wA, 2, none⟩ (.slice y2.iA y2.im y2.ic)) wA gA nk #[.slice kA kn kc, .slice sA sn sc, .slice pA pn pc, .int .i64 pl, .int .i64 seed, .int .i64 0, .int .i64 gy, .int .i64 stp, .int .i64 fuel] y2 (i + 1) ∧ Below w.heap.size w (((wx.setCell ⟨wA, 0, none⟩ (.slice y2.kA y2.kn y2.kc)).setCell ⟨wA, 1, none⟩ (.slice y2.gA y2.gn y2.gc)).setCell ⟨wA, 2, none⟩ (.slice y2.iA y2.im y2.ic))) := fun wx hx => Lib.hid (by
        have hT := HT8.out.1.below hx
        have hkx := Kx.set3 (B := 0) (F := [52]) Kx.refl hT.b (Nat.zero_le _) (by simp) 0 1 2 (.slice y2.kA y2.kn y2.kc) (.slice y2.gA y2.gn y2.gc) (.slice y2.iA y2.im y2.ic)
        refine ⟨⟨by simpa using ((hT.b.set_ 0 (.slice y2.kA y2.kn y2.kc)).set_ 1 (.slice y2.gA y2.gn y2.gc)).set_ 2 (.slice y2.iA y2.im y2.ic), hkx.bk hT.g (by decide), ((HYW.out.keep (F := []) (Kx.of_below hx) (by simp) (by simp) (by simp) (by simp) (by simp)).keep hkx (by decide) (by decide) (by decide) (by decide) (by decide)).ok_, HSTL.out.1, HFIN.out.1, hT.n, HFIN.out.2, fun _ a0 a1 a2 hm => ?_⟩, ?_⟩
        · have e := HMN.out.symm.trans hm
          injection e with e _
          injection e with e0 e
          injection e with e1 e2
          rw [← e0, ← e1, ← e2]
          exact HSTL.out.2
        · exact (((HT8.out.2.trans (hx.mono HT8.out.2.size)).setCell (p := ⟨wA, 0, none⟩) HB4.out.2 _).setCell (p := ⟨wA, 1, none⟩) HB4.out.2 _).setCell (p := ⟨wA, 2, none⟩) HB4.out.2 _)
      have HEND := Lib.hid hend
      clear hend
      by_cases h1 : i = 1
      · have t1 : ((i : Int) == 1) = true := by rw [h1]; rfl
        have HSAME : Hid (Calls Try.prog 38 #[.agg #[.slice y2.kA y2.kn y2.kc, .slice y2.gA y2.gn y2.gc, .slice y2.iA y2.im y2.ic], .agg #[.slice y1.kA y1.kn y1.kc, .slice y1.gA y1.gn y1.gc, .slice y1.iA y1.im y1.ic]] W8 fun e w' => e = .returned (.bool true) ∧ Below W8.heap.size W8 w') := Lib.hid (by
          have h2 := wsame_any (x := y2) (y := y1) HYW.out.ok_ HT8.out.1.wy
          have h3 : y2.p = y1.p := by
            rw [HYY.out]
            have h4 := HT8.out.1.still (by omega) m0 m1 m2 HMN.out R HRS.out
            rw [h4]
          rw [h3, decide_eq_true rfl] at h2
          exact h2)
        clear h1 HVB HRS
        go_wp2_with fail
        (with_reducible refine HSAME.out.mono ?_)
        rintro e w9 ⟨rfl, hb9⟩
        have HN := Lib.hid (HEND.out w9 hb9)
        have d0 : w9.cell? ⟨wA, 0, none⟩ = some (.slice y1.kA y1.kn y1.kc) := (hb9.cell (World.block_lt_of_cell? _ _ b0)).trans b0
        have d1 : w9.cell? ⟨wA, 1, none⟩ = some (.slice y1.gA y1.gn y1.gc) := (hb9.cell (World.block_lt_of_cell? _ _ b1)).trans b1
        have d2 : w9.cell? ⟨wA, 2, none⟩ = some (.slice y1.iA y1.im y1.ic) := (hb9.cell (World.block_lt_of_cell? _ _ b2)).trans b2
        have d3 : w9.cell? ⟨vA, 0, none⟩ = some (.slice y2.kA y2.kn y2.kc) := (hb9.cell (World.block_lt_of_cell? _ _ c0)).trans c0
        have d4 : w9.cell? ⟨vA, 1, none⟩ = some (.slice y2.gA y2.gn y2.gc) := (hb9.cell (World.block_lt_of_cell? _ _ c1)).trans c1
        have d5 : w9.cell? ⟨vA, 2, none⟩ = some (.slice y2.iA y2.im y2.ic) := (hb9.cell (World.block_lt_of_cell? _ _ c2)).trans c2
        have f0 := (HT8.out.1.below hb9).b.frozen 0
        have f1 := (HT8.out.1.below hb9).b.frozen 1
        have f2 := (HT8.out.1.below hb9).b.frozen 2
        clear b0 b1 b2 c0 c1 c2 hb9 HSAME HEND HT8 HYW
        go_wp2_with fail
        go_roundw
        case measure => simp [intOf]; omega
        case rel => exact ⟨i + 1, y2, by omega, by go_num, HN⟩
      · have t1 : ((i : Int) == 1) = false := by have : ¬ ((i : Int) = 1) := by omega
                                                 simpa using this
        have HN := Lib.hid (HEND.out W8 (Below.refl _ _))
        have f0 := HT8.out.1.b.frozen 0
        have f1 := HT8.out.1.b.frozen 1
        have f2 := HT8.out.1.b.frozen 2
        clear h1 HVB HRS HEND HT8 HYW
        go_wp2_with fail
        go_roundw
        case measure => simp [intOf]; omega
        case rel => exact ⟨i + 1, y2, by omega, by go_num, HN⟩
    · obtain rfl : i = 2 := by omega
      have HBO := Lib.hid (bodies2_say wr)
      go_wp2_with fail
      (with_reducible refine HBO.out.mono ?_)
      rintro e w9 ⟨rfl, hb9⟩
      have HZ : Hid (Below w.heap.size w w9) := Lib.hid (HT.out.2.trans (hb9.mono HT.out.2.size))
      clear hb9
      go_wp2_with fail
      go_ret
      exact ⟨rfl, HZ.out⟩
end Go.Proofs.Ytnidcmhfbkdioaa
