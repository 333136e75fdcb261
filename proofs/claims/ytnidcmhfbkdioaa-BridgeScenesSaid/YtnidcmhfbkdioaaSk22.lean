/-
  The walk of BridgeScenes. Conditions: what is read can be read; contacts that memory holds.
-/
import Derived.Test.YtnidcmhfbkdioaaSk15
import Derived.Test.YtnidcmhfbkdioaaSk19
import Derived.Test.YtnidcmhfbkdioaaSk21
namespace Go.Proofs.Ytnidcmhfbkdioaa
open Go.RowKit
set_option maxRecDepth 100000
theorem ScR.below {w w' : World} {base n c kn kc ec : Nat} {A kA E : Option Addr} {q : List (Bo × (Int × Int))} {D : List Ct} (h : ScR w base A n c kA kn kc E ec q D) (hb : Below w.heap.size w w') : ScR w' base A n c kA kn kc E ec q D := by
  obtain ⟨l, h1, h2⟩ := h.bm
  have hk : Kx 0 [] w w' := Kx.of_below hb
  exact ⟨⟨l, h1.keep hk (by simp) (by simp), h2⟩, hk.own h.en (by simp), h.len, hk.own h.ct (by simp)⟩
theorem Bk.bel {w w' : World} {g : Nat} {t : TypeId} {cs : Array Value} (h : Bk w g t cs) (hb : Below w.heap.size w w') : Bk w' g t cs := h.below hb h.lt
theorem ctCs_len (l : List Ct) : (ctCs l).length = l.length * 10 := by
  induction l with
  | nil => rfl
  | cons a l ih => simp only [ctCs, List.flatMap_cons, List.length_append] at ih ⊢; rw [ih]; simp [Ct.cs]; omega
theorem Below.dn {w w' : World} {B : Nat} (h : Below B w w') (n : Nat) : Below B w (w'.drewN n) := ⟨h.os, h.tape, h.output, h.size, h.block⟩
theorem WdOk.fresh {w w' : World} {B : Nat} {x : Wd} (h : WdOk w B x) (hb : Below B w w') : WdOk w' w'.heap.size x := by
  have h1 := h.below hb
  have hs : B ≤ w'.heap.size := h1.ks.lo
  exact ⟨h1.ks.more hs (Nat.le_refl _), ⟨h1.gs.rd.more hs, h1.gs.len, h1.gs.cap, h1.gs.cap2, h1.gs.wf, Nat.le_refl _⟩, h1.its.more hs (Nat.le_refl _)⟩
set_option maxHeartbeats 16000000 in
theorem bridgeScenes_any {w : World} {ln lc xn xc cn cc : Nat} {lA xA cA : Option Addr} {ls xs : List Int} {cl : List Ct} {x : Wd} {gx gy st : Int} (h : WdOk w w.heap.size x)
    (hl : Rd w w.heap.size 1 lA ln (ls.map (Value.int .i64))) (hln : ln = ls.length) (hlc : ln ≤ lc) (hlc2 : lc ≤ 9223372036854775807) (hlz : ∀ z ∈ ls, (Lit.int .i64 z).wf = true)
    (hx : Rd w w.heap.size 1 xA xn (xs.map (Value.int .i64))) (hxn : xn = xs.length) (hxc : xn ≤ xc) (hxc2 : xc ≤ 9223372036854775807) (hxz : ∀ z ∈ xs, (Lit.int .i64 z).wf = true)
    (hc : Rd w w.heap.size 10 cA cn (ctCs cl)) (hcn : cn = cl.length) (hcc : cn ≤ cc) (hcc2 : cc ≤ 9223372036854775807) (hcz : ∀ c ∈ cl, (Lit.int .i64 c.a).wf = true ∧ (Lit.int .i64 c.b).wf = true) (hcs : cn * 80 ≤ 140737488355328) :
    Calls Try.prog 11 #[x.v, .slice lA ln lc, .slice xA xn xc, .slice cA cn cc, .agg #[.int .i64 gx, .int .i64 gy], .int .i64 st] w fun e w' => e = .returned (.bool true) ∧ Below w.heap.size w w' := by
  obtain ⟨W0, hW0⟩ : ∃ z, z = (w.alloc (.cells #[.slice x.kA x.kn x.kc, .slice x.gA x.gn x.gc, .slice x.iA x.im x.ic] 52)).alloc (.cells #[.int .i64 gx, .int .i64 gy] 105) := ⟨_, rfl⟩
  have HB0 : Hid (Below w.heap.size w W0) := Lib.hid (by rw [hW0]; exact Below.al (Below.al (Below.refl _ _) _) _)
  have HW0 : Hid (Bk W0 w.heap.size 52 #[.slice x.kA x.kn x.kc, .slice x.gA x.gn x.gc, .slice x.iA x.im x.ic]) := Lib.hid (by rw [hW0]; exact (Bk.new _ _ _).alloc _)
  have HV0 : Hid (Bk W0 (w.heap.size + 1) 105 #[.int .i64 gx, .int .i64 gy]) := Lib.hid (by rw [hW0]; exact Bk.two _ _ _ _)
  have HX := Lib.hid h
  have HL := Lib.hid (And.intro hl (And.intro hln (And.intro hlc (And.intro hlc2 hlz))))
  have HXS := Lib.hid (And.intro hx (And.intro hxn (And.intro hxc (And.intro hxc2 hxz))))
  have HC := Lib.hid (And.intro hc (And.intro hcn (And.intro hcc (And.intro hcc2 (And.intro hcz hcs)))))
  have hlc_ := hlc
  clear h hl hln hlc hlc2 hlz hx hxn hxc hxc2 hxz hc hcn hcc hcc2 hcz hcs
  show Calls Try.prog 11 #[.agg #[.slice x.kA x.kn x.kc, .slice x.gA x.gn x.gc, .slice x.iA x.im x.ic], .slice lA ln lc, .slice xA xn xc, .slice cA cn cc, .agg #[.int .i64 gx, .int .i64 gy], .int .i64 st] w _
  go_enter Try.func11, Try.ntmps11
  go_upto_if 21 with fail
  rw [← hW0]
  clear hW0
  obtain ⟨hw, hhw⟩ : ∃ z, z = w.heap.size := ⟨_, rfl⟩
  obtain ⟨hv, hhv⟩ : ∃ z, z = w.heap.size + 1 := ⟨_, rfl⟩
  rw [← hhv, ← hhw]
  rw [← hhv] at HV0
  have HHW := Lib.hid (And.intro hhw hhv)
  have HWB : Hid (Bk W0 hw 52 #[.slice x.kA x.kn x.kc, .slice x.gA x.gn x.gc, .slice x.iA x.im x.ic]) := Lib.hid (by rw [hhw]; exact HW0.out)
  clear HW0 hhw hhv
  go_cut [25] from 21 to 25 (fun _ wx => ∃ y : Wd, Hid (Bk wx hw 52 #[.slice y.kA y.kn y.kc, .slice y.gA y.gn y.gc, .slice y.iA y.im y.ic] ∧ Bk wx hv 105 #[.int .i64 gx, .int .i64 gy] ∧ WdOk wx wx.heap.size y ∧ Below w.heap.size w wx))
  case first =>
    by_cases h0 : ln = 0
    · have h0z : ¬ ((ln : Int) > 0) := by omega
      have HF : Hid (Bk W0 hw 52 #[.slice x.kA x.kn x.kc, .slice x.gA x.gn x.gc, .slice x.iA x.im x.ic] ∧ Bk W0 hv 105 #[.int .i64 gx, .int .i64 gy] ∧ WdOk W0 W0.heap.size x ∧ Below w.heap.size w W0) := Lib.hid ⟨HWB.out, HV0.out, HX.out.fresh HB0.out, HB0.out⟩
      clear h0
      go_wp2_with fail
      go_meet
      case rel => exact ⟨x, HF⟩
    · have h0z : (ln : Int) > 0 := by omega
      have HGA : Hid (Calls Try.prog 55 #[.slice lA ln lc] W0 _) := Lib.hid (game_any lA ln lc w.heap.size ls W0 (HL.out.1.below HB0.out) HL.out.2.1 HL.out.2.2.1 HL.out.2.2.2.1 HL.out.2.2.2.2 HB0.out.size)
      clear h0
      go_wp2_with fail
      (with_reducible refine HGA.out.mono ?_)
      rintro e w1 ⟨kA, sA, pA, kn, kc, sn, sc, pn, pc, nk, ks, pl, seed, ggy, stp, fuel, rfl, hg1, hb1⟩
      have HB1 : Hid (Below w.heap.size w w1) := Lib.hid (HB0.out.trans (hb1.mono HB0.out.size))
      have HG1 := hg1
      have HWB1 := Lib.hid (HWB.out.bel hb1)
      have HV1 := Lib.hid (HV0.out.bel hb1)
      have HKW : Hid (Calls Try.prog 54 #[.agg #[.slice kA kn kc, .slice sA sn sc, .slice pA pn pc, .int .i64 pl, .int .i64 seed, .int .i64 0, .int .i64 ggy, .int .i64 stp, .int .i64 fuel], .slice xA xn xc] w1 _) := Lib.hid (kworld_any xA xn xc w.heap.size xs w1 (HXS.out.1.below HB1.out) HXS.out.2.1 HXS.out.2.2.1 HXS.out.2.2.2.1 HXS.out.2.2.2.2 HB1.out.size HG1.out.1
        (fun k hk => kindsN_one nk HG1.out.2.2.1 k.p (by rw [← HG1.out.2.1]; exact List.mem_map_of_mem hk)) (fun k hk => kindsN_place nk HG1.out.2.2.1 k.p (by rw [← HG1.out.2.1]; exact List.mem_map_of_mem hk)) (by
          have h1 := kindsN_len nk HG1.out.2.2.1
          have h2 := HG1.out.1.len
          have h3 := congrArg List.length HG1.out.2.1
          rw [List.length_map] at h3
          omega))
      clear hg1 hb1 HGA
      go_wp2_with fail
      (with_reducible refine HKW.out.mono ?_)
      rintro e w2 ⟨y, rfl, hy, hb2⟩
      have HWB2 := Lib.hid (HWB1.out.bel hb2)
      have HV2 := Lib.hid (HV1.out.bel hb2)
      have HB2 : Hid (Below w.heap.size w w2) := Lib.hid (HB1.out.trans (hb2.mono HB1.out.size))
      have c0 : w2.cell? ⟨hw, 0, none⟩ = some (.slice x.kA x.kn x.kc) := HWB2.out.cell 0
      have c1 : w2.cell? ⟨hw, 1, none⟩ = some (.slice x.gA x.gn x.gc) := HWB2.out.cell 1
      have c2 : w2.cell? ⟨hw, 2, none⟩ = some (.slice x.iA x.im x.ic) := HWB2.out.cell 2
      have f0 := HWB2.out.frozen 0
      have f1 := HWB2.out.frozen 1
      have f2 := HWB2.out.frozen 2
      have hle : w.heap.size ≤ hw := by have := HHW.out; omega
      have HF : Hid (Bk (((w2.setCell ⟨hw, 0, none⟩ (.slice y.kA y.kn y.kc)).setCell ⟨hw, 1, none⟩ (.slice y.gA y.gn y.gc)).setCell ⟨hw, 2, none⟩ (.slice y.iA y.im y.ic)) hw 52 #[.slice y.kA y.kn y.kc, .slice y.gA y.gn y.gc, .slice y.iA y.im y.ic] ∧ Bk (((w2.setCell ⟨hw, 0, none⟩ (.slice y.kA y.kn y.kc)).setCell ⟨hw, 1, none⟩ (.slice y.gA y.gn y.gc)).setCell ⟨hw, 2, none⟩ (.slice y.iA y.im y.ic)) hv 105 #[.int .i64 gx, .int .i64 gy] ∧ WdOk (((w2.setCell ⟨hw, 0, none⟩ (.slice y.kA y.kn y.kc)).setCell ⟨hw, 1, none⟩ (.slice y.gA y.gn y.gc)).setCell ⟨hw, 2, none⟩ (.slice y.iA y.im y.ic)) (((w2.setCell ⟨hw, 0, none⟩ (.slice y.kA y.kn y.kc)).setCell ⟨hw, 1, none⟩ (.slice y.gA y.gn y.gc)).setCell ⟨hw, 2, none⟩ (.slice y.iA y.im y.ic)).heap.size y ∧ Below w.heap.size w (((w2.setCell ⟨hw, 0, none⟩ (.slice y.kA y.kn y.kc)).setCell ⟨hw, 1, none⟩ (.slice y.gA y.gn y.gc)).setCell ⟨hw, 2, none⟩ (.slice y.iA y.im y.ic))) := Lib.hid (by
        have hkx := Kx.set3 (B := 0) (F := [52]) Kx.refl HWB2.out (Nat.zero_le _) (by simp) 0 1 2 (.slice y.kA y.kn y.kc) (.slice y.gA y.gn y.gc) (.slice y.iA y.im y.ic)
        exact ⟨by simpa using ((HWB2.out.set_ 0 (.slice y.kA y.kn y.kc)).set_ 1 (.slice y.gA y.gn y.gc)).set_ 2 (.slice y.iA y.im y.ic), hkx.bk HV2.out (by decide), (hy.out.1.1.keep hkx (by decide) (by decide) (by decide) (by decide) (by decide)).ok_, ((HB2.out.setCell (p := ⟨hw, 0, none⟩) hle _).setCell (p := ⟨hw, 1, none⟩) hle _).setCell (p := ⟨hw, 2, none⟩) hle _⟩)
      clear hy hb2 HKW HWB2 HV2 HB2 HWB1 HV1 HB1 HG1
      simp only [Wd.v]
      go_wp2_with fail
      go_meet
      case rel => exact ⟨y, HF⟩
  case rest =>
    obtain ⟨y, HY⟩ := hcut
    clear HWB HV0 HX HL HXS HB0
    obtain ⟨w1, rfl⟩ : ∃ q, q = wc := ⟨_, rfl⟩
    obtain ⟨⟨⟨m0, m1, m2⟩, mv⟩, hmv⟩ : ∃ z, z = mapF (y.ks.map Kd.p) := ⟨_, rfl⟩
    obtain ⟨cv, hcv⟩ : ∃ z, z = wcheckF y.p := ⟨_, rfl⟩
    have HVI : Hid (cv = 0 → mv = 0 → (∀ it ∈ y.its, ItV it m0 m1 m2) ∧ checkF (y.ks.map Kd.p) = 0 ∧ VW holdK y.p) := Lib.hid fun h1 h2 => by
      subst h1; subst h2
      have hc0 := hcv.symm
      exact ⟨itv_of HY.out.2.2.1 hc0 hmv.symm, (vw_of hc0).1, (vw_of hc0).2⟩
    have HSC : Hid (Calls Try.prog 56 #[y.v, .slice cA cn cc, .agg #[.int .i64 gx, .int .i64 gy], .int .i64 st] w1 (ScP w1 cv mv gx gy st (bodiesF m0 m1 m2 y.its) (ctsF (slotM ((bodiesF m0 m1 m2 y.its).map Prod.snd) 0 fun _ => none) cl))) := Lib.hid
      (scene_any HY.out.2.2.1 ((HC.out.1.below HY.out.2.2.2).more HY.out.2.2.2.size) HC.out.2.1 HC.out.2.2.1 HC.out.2.2.2.1 HC.out.2.2.2.2.2 HC.out.2.2.2.2.1 hcv hmv.symm (fun h1 h2 it hit => ⟨((HVI.out h1 h2).1 it hit).v0, ((HVI.out h1 h2).1 it hit).v1, ((HVI.out h1 h2).1 it hit).v2⟩))
    have HBO : Hid (∀ w : World, Calls Try.prog 21 #[] w fun e w' => e = .returned (.bool true) ∧ Below w.heap.size w w') := Lib.hid bodies_say
    have HMV := Lib.hid hmv
    have HCV := Lib.hid hcv
    have q0 : w1.cell? ⟨hw, 0, none⟩ = some (.slice y.kA y.kn y.kc) := HY.out.1.cell 0
    have q1 : w1.cell? ⟨hw, 1, none⟩ = some (.slice y.gA y.gn y.gc) := HY.out.1.cell 1
    have q2 : w1.cell? ⟨hw, 2, none⟩ = some (.slice y.iA y.im y.ic) := HY.out.1.cell 2
    have q3 : w1.cell? ⟨hv, 0, none⟩ = some (.int .i64 gx) := HY.out.2.1.cell 0
    have q4 : w1.cell? ⟨hv, 1, none⟩ = some (.int .i64 gy) := HY.out.2.1.cell 1
    clear hmv hcv
    go_wp2_with fail
    clear q0 q1 q2 q3 q4
    show Calls Try.prog 56 #[y.v, .slice cA cn cc, .agg #[.int .i64 gx, .int .i64 gy], .int .i64 st] w1 _
    (with_reducible refine HSC.out.mono ?_)
    rintro e w2 ⟨hb2, hr⟩
    have HB2 : Hid (Below w.heap.size w w2) := Lib.hid (HY.out.2.2.2.trans (hb2.mono HY.out.2.2.2.size))
    have HW2 := Lib.hid (HY.out.1.bel hb2)
    have HV2 := Lib.hid (HY.out.2.1.bel hb2)
    have HY2 : Hid (WdOk w2 w2.heap.size y) := Lib.hid (HY.out.2.2.1.fresh hb2)
    have HSZ : Hid (w.heap.size ≤ w1.heap.size) := Lib.hid HY.out.2.2.2.size
    clear hb2 HY HSC
    rcases hr with ⟨hc0, rfl⟩ | ⟨hc0, hm0, rfl⟩ | ⟨hc0, hm0, hq, rfl⟩ | ⟨hc0, hm0, hq, A, n, c, kA, kn, kc, E, ec, rfl, hR⟩
    · have tc : (cv == 0) = false := by simp [hc0]
      have tn : (cv != 0) = true := by simp [hc0]
      obtain ⟨w3, hw3⟩ : ∃ z, z = w2.alloc (.cells #[.slice none 0 0, .slice none 0 0, .slice none 0 0, .int .i64 0, .int .i64 0, .int .i64 0] 115) := ⟨_, rfl⟩
      have HBW : Hid (Below w2.heap.size w2 w3) := Lib.hid (by rw [hw3]; exact Below.al (Below.refl _ _) _)
      have HB3 : Hid (Below w.heap.size w w3) := Lib.hid (HB2.out.trans (HBW.out.mono HB2.out.size))
      have HW3 := Lib.hid (HW2.out.bel HBW.out)
      have HY3 : Hid (WdOk w3 w3.heap.size y) := Lib.hid (HY2.out.fresh HBW.out)
      obtain ⟨sA, hsA⟩ : ∃ z, z = w2.heap.size := ⟨_, rfl⟩
      have HS3 : Hid (Bk w3 sA 115 #[.slice none 0 0, .slice none 0 0, .slice none 0 0, .int .i64 0, .int .i64 0, .int .i64 0]) := Lib.hid (by rw [hw3, hsA]; exact Bk.new _ _ _)
      have q0 : w3.cell? ⟨hw, 0, none⟩ = some (.slice y.kA y.kn y.kc) := HW3.out.cell 0
      have q1 : w3.cell? ⟨hw, 1, none⟩ = some (.slice y.gA y.gn y.gc) := HW3.out.cell 1
      have q2 : w3.cell? ⟨hw, 2, none⟩ = some (.slice y.iA y.im y.ic) := HW3.out.cell 2
      go_upto_region 4 with fail
      rw [← hw3, ← hsA]
      have HWE := Lib.hid (show w3 = w3 from rfl)
      clear hw3 hsA
      have HCK : Hid (Calls Try.prog 32 #[y.v] w3 fun e w' => e = .returned (.int .i64 cv) ∧ Below w3.heap.size w3 w') := Lib.hid (by rw [HCV.out]; exact wcheck_any HY3.out)
      clear hc0
      go_wp2_with fail
      show Calls Try.prog 32 #[y.v] w3 _
      (with_reducible refine HCK.out.mono ?_)
      rintro e w4 ⟨rfl, hb4⟩
      have HB4 : Hid (Below w.heap.size w w4) := Lib.hid (HB3.out.trans (hb4.mono HB3.out.size))
      have HS4 := Lib.hid (HS3.out.bel hb4)
      clear hb4 HCK
      go_wp2_with fail
      (with_reducible refine (HBO.out w4).mono ?_)
      rintro e w6 ⟨rfl, hb6⟩
      have HB6 : Hid (Below w.heap.size w w6) := Lib.hid (HB4.out.trans (hb6.mono HB4.out.size))
      have HS6 := Lib.hid (HS4.out.bel hb6)
      clear hb6
      go_wp2_with fail
      (with_reducible refine (HBO.out w6).mono ?_)
      rintro e w7 ⟨rfl, hb7⟩
      have HB7 : Hid (Below w.heap.size w w7) := Lib.hid (HB6.out.trans (hb7.mono HB6.out.size))
      have z0 : w7.cell? ⟨sA, 0, none⟩ = some (.slice none 0 0) := (HS6.out.bel hb7).cell 0
      clear hb7
      go_wp2_with fail
      go_ret
      exact ⟨rfl, HB7.out⟩
    · subst hc0
      have tm : (mv == 0) = false := by simp [hm0]
      have tn : (mv != 0) = true := by simp [hm0]
      obtain ⟨w3, hw3⟩ : ∃ z, z = w2.alloc (.cells #[.slice none 0 0, .slice none 0 0, .slice none 0 0, .int .i64 0, .int .i64 0, .int .i64 0] 115) := ⟨_, rfl⟩
      have HBW : Hid (Below w2.heap.size w2 w3) := Lib.hid (by rw [hw3]; exact Below.al (Below.refl _ _) _)
      have HB3 : Hid (Below w.heap.size w w3) := Lib.hid (HB2.out.trans (HBW.out.mono HB2.out.size))
      have HW3 := Lib.hid (HW2.out.bel HBW.out)
      have HY3 : Hid (WdOk w3 w3.heap.size y) := Lib.hid (HY2.out.fresh HBW.out)
      obtain ⟨sA, hsA⟩ : ∃ z, z = w2.heap.size := ⟨_, rfl⟩
      have HS3 : Hid (Bk w3 sA 115 #[.slice none 0 0, .slice none 0 0, .slice none 0 0, .int .i64 0, .int .i64 0, .int .i64 0]) := Lib.hid (by rw [hw3, hsA]; exact Bk.new _ _ _)
      have q0 : w3.cell? ⟨hw, 0, none⟩ = some (.slice y.kA y.kn y.kc) := HW3.out.cell 0
      have q1 : w3.cell? ⟨hw, 1, none⟩ = some (.slice y.gA y.gn y.gc) := HW3.out.cell 1
      have q2 : w3.cell? ⟨hw, 2, none⟩ = some (.slice y.iA y.im y.ic) := HW3.out.cell 2
      go_upto_region 4 with fail
      rw [← hw3, ← hsA]
      have HWE := Lib.hid (show w3 = w3 from rfl)
      clear hw3 hsA
      have HCK : Hid (Calls Try.prog 32 #[y.v] w3 fun e w' => e = .returned (.int .i64 0) ∧ Below w3.heap.size w3 w') := Lib.hid (by rw [HCV.out]; exact wcheck_any HY3.out)
      clear hm0
      go_wp2_with fail
      show Calls Try.prog 32 #[y.v] w3 _
      (with_reducible refine HCK.out.mono ?_)
      rintro e w4 ⟨rfl, hb4⟩
      have HB4_ : Hid (Below w.heap.size w w4) := Lib.hid (HB3.out.trans (hb4.mono HB3.out.size))
      have HS4_ := Lib.hid (HS3.out.bel hb4)
      have HW4 := Lib.hid (HW3.out.bel hb4)
      have HY4 : Hid (WdOk w4 w4.heap.size y) := Lib.hid (HY3.out.fresh hb4)
      have HMF : Hid (Calls Try.prog 20 #[.slice y.kA y.kn y.kc] w4 (OfP w4 ((m0, m1, m2), mv))) := Lib.hid (by rw [HMV.out]; exact mapFault_says HY4.out.ks)
      have p0 : w4.cell? ⟨hw, 0, none⟩ = some (.slice y.kA y.kn y.kc) := HW4.out.cell 0
      clear hb4 HCK
      go_wp2_with fail
      (with_reducible refine HMF.out.mono ?_)
      rintro e w5 ⟨rfl, hb5⟩
      have HB4 : Hid (Below w.heap.size w w5) := Lib.hid (HB4_.out.trans (hb5.mono HB4_.out.size))
      have HS4 := Lib.hid (HS4_.out.bel hb5)
      clear hb5 HMF p0
      go_wp2_with fail
      (with_reducible refine (HBO.out w5).mono ?_)
      rintro e w6 ⟨rfl, hb6⟩
      have HB6 : Hid (Below w.heap.size w w6) := Lib.hid (HB4.out.trans (hb6.mono HB4.out.size))
      have HS6 := Lib.hid (HS4.out.bel hb6)
      clear hb6
      go_wp2_with fail
      (with_reducible refine (HBO.out w6).mono ?_)
      rintro e w7 ⟨rfl, hb7⟩
      have HB7 : Hid (Below w.heap.size w w7) := Lib.hid (HB6.out.trans (hb7.mono HB6.out.size))
      have z0 : w7.cell? ⟨sA, 0, none⟩ = some (.slice none 0 0) := (HS6.out.bel hb7).cell 0
      clear hb7
      go_wp2_with fail
      go_ret
      exact ⟨rfl, HB7.out⟩
    · subst hc0; subst hm0
      obtain ⟨hit, hck0, hvw⟩ := HVI.out rfl rfl
      have HIT := Lib.hid hit
      have HSM : Hid (∀ k ∈ y.ks, k.n ≤ 1048576) := Lib.hid fun k hk => by
        have h1 := checkF_small hck0 (Kd.p k) (List.mem_map_of_mem hk)
        have h2 := (HY2.out.ks.ok k hk).len
        have h3 : (Kd.p k).2 = k.fds := rfl
        rw [h3] at h1
        omega
      have HIM : Hid (y.its.length ≤ 256) := Lib.hid (by
        have h1 := hvw.its_len
        have h2 := hvw.many
        have h3 : y.p.its.length = y.its.length := by simp [Wd.p]
        omega)
      obtain ⟨s0, s1, s2⟩ := mapF_ok HMV.out.symm
      obtain ⟨m3, hm3⟩ : ∃ z, z = (spec (y.ks.map Kd.p) sp3).1 := ⟨_, rfl⟩
      obtain ⟨m4, hm4⟩ : ∃ z, z = (spec (y.ks.map Kd.p) sp4).1 := ⟨_, rfl⟩
      have HSX : Hid (spX (y.ks.map Kd.p) = .agg #[.int .i64 m0, .int .i64 m1, .int .i64 m2, .int .i64 m3, .int .i64 m4]) := Lib.hid (by unfold spX; rw [s0, s1, s2, ← hm3, ← hm4])
      clear hit hck0 hvw s0 s1 s2 hm3 hm4 HVI
      obtain ⟨Q0, hQ0⟩ : ∃ z, z = bodiesF m0 m1 m2 y.its := ⟨_, rfl⟩
      rw [← hQ0] at hq
      have HQE := Lib.hid hQ0
      clear hQ0
      obtain ⟨w3, hw3⟩ : ∃ z, z = w2.alloc (.cells #[.slice none 0 0, .slice none 0 0, .slice none 0 0, .int .i64 0, .int .i64 0, .int .i64 0] 115) := ⟨_, rfl⟩
      have HBW : Hid (Below w2.heap.size w2 w3) := Lib.hid (by rw [hw3]; exact Below.al (Below.refl _ _) _)
      have HB3 : Hid (Below w.heap.size w w3) := Lib.hid (HB2.out.trans (HBW.out.mono HB2.out.size))
      have HW3 := Lib.hid (HW2.out.bel HBW.out)
      have HV3 := Lib.hid (HV2.out.bel HBW.out)
      have HY3 : Hid (WdOk w3 w3.heap.size y) := Lib.hid (HY2.out.fresh HBW.out)
      obtain ⟨sA, hsA⟩ : ∃ z, z = w2.heap.size := ⟨_, rfl⟩
      have HS3 : Hid (Bk w3 sA 115 #[.slice none 0 0, .slice none 0 0, .slice none 0 0, .int .i64 0, .int .i64 0, .int .i64 0]) := Lib.hid (by rw [hw3, hsA]; exact Bk.new _ _ _)
      have q0 : w3.cell? ⟨hw, 0, none⟩ = some (.slice y.kA y.kn y.kc) := HW3.out.cell 0
      have q1 : w3.cell? ⟨hw, 1, none⟩ = some (.slice y.gA y.gn y.gc) := HW3.out.cell 1
      have q2 : w3.cell? ⟨hw, 2, none⟩ = some (.slice y.iA y.im y.ic) := HW3.out.cell 2
      go_upto_region 4 with fail
      rw [← hw3, ← hsA]
      clear hw3 hsA
      have HCK : Hid (Calls Try.prog 32 #[y.v] w3 fun e w' => e = .returned (.int .i64 0) ∧ Below w3.heap.size w3 w') := Lib.hid (by rw [HCV.out]; exact wcheck_any HY3.out)
      go_wp2_with fail
      show Calls Try.prog 32 #[y.v] w3 _
      (with_reducible refine HCK.out.mono ?_)
      rintro e w4 ⟨rfl, hb4⟩
      have HB4 : Hid (Below w.heap.size w w4) := Lib.hid (HB3.out.trans (hb4.mono HB3.out.size))
      have HS4 := Lib.hid (HS3.out.bel hb4)
      have HW4 := Lib.hid (HW3.out.bel hb4)
      have HV4 := Lib.hid (HV3.out.bel hb4)
      have HY4 : Hid (WdOk w4 w4.heap.size y) := Lib.hid (HY3.out.fresh hb4)
      have HMF : Hid (Calls Try.prog 20 #[.slice y.kA y.kn y.kc] w4 (OfP w4 ((m0, m1, m2), 0))) := Lib.hid (by rw [HMV.out]; exact mapFault_says HY4.out.ks)
      have p0 : w4.cell? ⟨hw, 0, none⟩ = some (.slice y.kA y.kn y.kc) := HW4.out.cell 0
      clear hb4 HCK
      go_wp2_with fail
      (with_reducible refine HMF.out.mono ?_)
      rintro e w5 ⟨rfl, hb5⟩
      have HB5 : Hid (Below w.heap.size w w5) := Lib.hid (HB4.out.trans (hb5.mono HB4.out.size))
      have HS5 := Lib.hid (HS4.out.bel hb5)
      have HW5 := Lib.hid (HW4.out.bel hb5)
      have HV5 := Lib.hid (HV4.out.bel hb5)
      have HY5 : Hid (WdOk w5 w5.heap.size y) := Lib.hid (HY4.out.fresh hb5)
      clear hb5 HMF p0
      go_wp2_with fail
      (with_reducible refine (HBO.out w5).mono ?_)
      rintro e w6 ⟨rfl, hb6⟩
      have HB6 : Hid (Below w.heap.size w w6) := Lib.hid (HB5.out.trans (hb6.mono HB5.out.size))
      have HS6 := Lib.hid (HS5.out.bel hb6)
      have HW6 := Lib.hid (HW5.out.bel hb6)
      have HV6 := Lib.hid (HV5.out.bel hb6)
      have HY6 : Hid (WdOk w6 w6.heap.size y) := Lib.hid (HY5.out.fresh hb6)
      clear hb6
      have p0 : w6.cell? ⟨hw, 0, none⟩ = some (.slice y.kA y.kn y.kc) := HW6.out.cell 0
      have p1 : w6.cell? ⟨hw, 1, none⟩ = some (.slice y.gA y.gn y.gc) := HW6.out.cell 1
      have p2 : w6.cell? ⟨hw, 2, none⟩ = some (.slice y.iA y.im y.ic) := HW6.out.cell 2
      have HSO : Hid (Calls Try.prog 57 #[y.v, .slice cA cn cc] w6 (SoP w6 Q0 (ctrF (Q0.map Prod.snd) cl))) := Lib.hid (by
        rw [HQE.out]
        exact sceneOf_any HY6.out ((HC.out.1.below HB6.out).more HB6.out.size) HC.out.2.1 HC.out.2.2.1 HC.out.2.2.2.1 HC.out.2.2.2.2.2 HSM.out HSX.out HIM.out HIT.out)
      go_wp2_with fail
      show Calls Try.prog 57 #[y.v, .slice cA cn cc] w6 _
      clear p0 p1 p2
      (with_reducible refine HSO.out.mono ?_)
      rintro e w7 ⟨hb7, A', n', c', kA', kn', kc', E', ec', rfl, hR'⟩
      have HR7 := Lib.hid hR'
      have HB7 : Hid (Below w.heap.size w w7) := Lib.hid (HB6.out.trans (hb7.mono HB6.out.size))
      have HS7 := Lib.hid (HS6.out.bel hb7)
      have HV7 := Lib.hid (HV6.out.bel hb7)
      have hn' := hR'.len
      clear hb7 hR' HSO
      have hn64 : (n' : Int) > 64 := by omega
      have z0 : w7.cell? ⟨sA, 0, none⟩ = some (.slice none 0 0) := HS7.out.cell 0
      have z0' : (w7.alloc (.cells #[.slice A' n' c', .slice none 0 0, .slice kA' kn' kc', .int .i64 0, .int .i64 0, .int .i64 0] 115)).cell? ⟨sA, 0, none⟩ = some (.slice none 0 0) := (HS7.out.alloc _).cell 0
      have hfin : Below w.heap.size w (w7.alloc (.cells #[.slice A' n' c', .slice none 0 0, .slice kA' kn' kc', .int .i64 0, .int .i64 0, .int .i64 0] 115)) := HB7.out.alloc HB7.out.size _
      have HFIN := Lib.hid hfin
      clear hfin HR7 hn' hq
      go_wp2_with fail
      go_ret
      exact ⟨rfl, HFIN.out⟩
    · subst hc0; subst hm0
      obtain ⟨hit, hck0, hvw⟩ := HVI.out rfl rfl
      have HIT := Lib.hid hit
      have HSM : Hid (∀ k ∈ y.ks, k.n ≤ 1048576) := Lib.hid fun k hk => by
        have h1 := checkF_small hck0 (Kd.p k) (List.mem_map_of_mem hk)
        have h2 := (HY2.out.ks.ok k hk).len
        have h3 : (Kd.p k).2 = k.fds := rfl
        rw [h3] at h1
        omega
      have HIM : Hid (y.its.length ≤ 256) := Lib.hid (by
        have h1 := hvw.its_len
        have h2 := hvw.many
        have h3 : y.p.its.length = y.its.length := by simp [Wd.p]
        omega)
      obtain ⟨s0, s1, s2⟩ := mapF_ok HMV.out.symm
      obtain ⟨m3, hm3⟩ : ∃ z, z = (spec (y.ks.map Kd.p) sp3).1 := ⟨_, rfl⟩
      obtain ⟨m4, hm4⟩ : ∃ z, z = (spec (y.ks.map Kd.p) sp4).1 := ⟨_, rfl⟩
      have HSX : Hid (spX (y.ks.map Kd.p) = .agg #[.int .i64 m0, .int .i64 m1, .int .i64 m2, .int .i64 m3, .int .i64 m4]) := Lib.hid (by unfold spX; rw [s0, s1, s2, ← hm3, ← hm4])
      clear hit hck0 hvw s0 s1 s2 hm3 hm4 HVI
      obtain ⟨Q0, hQ0⟩ : ∃ z, z = bodiesF m0 m1 m2 y.its := ⟨_, rfl⟩
      rw [← hQ0] at hq hR
      have HQE := Lib.hid hQ0
      clear hQ0
      have HD : Hid (ctsF (slotM (Q0.map Prod.snd) 0 fun _ => none) cl = ctrF (Q0.map Prod.snd) cl) := Lib.hid (by rw [HQE.out]; exact cts_ctr (bodies_slots HCV.out.symm m0 m1 m2) cl)
      rw [HD.out] at hR
      have HR2 := Lib.hid hR
      have HNQ := Lib.hid hR.len
      clear hR HD
      obtain ⟨w3, hw3⟩ : ∃ z, z = w2.alloc (.cells #[.slice A n c, .slice none 0 0, .slice kA kn kc, .int .i64 gx, .int .i64 gy, .int .i64 st] 115) := ⟨_, rfl⟩
      have HBW : Hid (Below w2.heap.size w2 w3) := Lib.hid (by rw [hw3]; exact Below.al (Below.refl _ _) _)
      have HB3 : Hid (Below w.heap.size w w3) := Lib.hid (HB2.out.trans (HBW.out.mono HB2.out.size))
      have HW3 := Lib.hid (HW2.out.bel HBW.out)
      have HV3 := Lib.hid (HV2.out.bel HBW.out)
      have HY3 : Hid (WdOk w3 w3.heap.size y) := Lib.hid (HY2.out.fresh HBW.out)
      obtain ⟨sA, hsA⟩ : ∃ z, z = w2.heap.size := ⟨_, rfl⟩
      have HS3 : Hid (Bk w3 sA 115 #[.slice A n c, .slice none 0 0, .slice kA kn kc, .int .i64 gx, .int .i64 gy, .int .i64 st]) := Lib.hid (by rw [hw3, hsA]; exact Bk.new _ _ _)
      have q0 : w3.cell? ⟨hw, 0, none⟩ = some (.slice y.kA y.kn y.kc) := HW3.out.cell 0
      have q1 : w3.cell? ⟨hw, 1, none⟩ = some (.slice y.gA y.gn y.gc) := HW3.out.cell 1
      have q2 : w3.cell? ⟨hw, 2, none⟩ = some (.slice y.iA y.im y.ic) := HW3.out.cell 2
      go_upto_region 4 with fail
      rw [← hw3, ← hsA]
      clear hw3 hsA
      have HR3 := Lib.hid (HR2.out.below HBW.out)
      have HCK : Hid (Calls Try.prog 32 #[y.v] w3 fun e w' => e = .returned (.int .i64 0) ∧ Below w3.heap.size w3 w') := Lib.hid (by rw [HCV.out]; exact wcheck_any HY3.out)
      go_wp2_with fail
      show Calls Try.prog 32 #[y.v] w3 _
      (with_reducible refine HCK.out.mono ?_)
      rintro e w4 ⟨rfl, hb4⟩
      have HB4 : Hid (Below w.heap.size w w4) := Lib.hid (HB3.out.trans (hb4.mono HB3.out.size))
      have HS4 := Lib.hid (HS3.out.bel hb4)
      have HW4 := Lib.hid (HW3.out.bel hb4)
      have HV4 := Lib.hid (HV3.out.bel hb4)
      have HY4 : Hid (WdOk w4 w4.heap.size y) := Lib.hid (HY3.out.fresh hb4)
      have HRR4 := Lib.hid (HR3.out.below hb4)
      have HMF : Hid (Calls Try.prog 20 #[.slice y.kA y.kn y.kc] w4 (OfP w4 ((m0, m1, m2), 0))) := Lib.hid (by rw [HMV.out]; exact mapFault_says HY4.out.ks)
      have p0 : w4.cell? ⟨hw, 0, none⟩ = some (.slice y.kA y.kn y.kc) := HW4.out.cell 0
      clear hb4 HCK
      go_wp2_with fail
      (with_reducible refine HMF.out.mono ?_)
      rintro e w5 ⟨rfl, hb5⟩
      have HB5 : Hid (Below w.heap.size w w5) := Lib.hid (HB4.out.trans (hb5.mono HB4.out.size))
      have HS5 := Lib.hid (HS4.out.bel hb5)
      have HW5 := Lib.hid (HW4.out.bel hb5)
      have HV5 := Lib.hid (HV4.out.bel hb5)
      have HY5 : Hid (WdOk w5 w5.heap.size y) := Lib.hid (HY4.out.fresh hb5)
      have HRR5 := Lib.hid (HRR4.out.below hb5)
      clear hb5 HMF p0
      go_wp2_with fail
      (with_reducible refine (HBO.out w5).mono ?_)
      rintro e w6 ⟨rfl, hb6⟩
      have HB6 : Hid (Below w.heap.size w w6) := Lib.hid (HB5.out.trans (hb6.mono HB5.out.size))
      have HS6 := Lib.hid (HS5.out.bel hb6)
      have HW6 := Lib.hid (HW5.out.bel hb6)
      have HV6 := Lib.hid (HV5.out.bel hb6)
      have HY6 : Hid (WdOk w6 w6.heap.size y) := Lib.hid (HY5.out.fresh hb6)
      have HRR6 := Lib.hid (HRR5.out.below hb6)
      clear hb6
      have p0 : w6.cell? ⟨hw, 0, none⟩ = some (.slice y.kA y.kn y.kc) := HW6.out.cell 0
      have p1 : w6.cell? ⟨hw, 1, none⟩ = some (.slice y.gA y.gn y.gc) := HW6.out.cell 1
      have p2 : w6.cell? ⟨hw, 2, none⟩ = some (.slice y.iA y.im y.ic) := HW6.out.cell 2
      have HSO : Hid (Calls Try.prog 57 #[y.v, .slice cA cn cc] w6 (SoP w6 Q0 (ctrF (Q0.map Prod.snd) cl))) := Lib.hid (by
        rw [HQE.out]
        exact sceneOf_any HY6.out ((HC.out.1.below HB6.out).more HB6.out.size) HC.out.2.1 HC.out.2.2.1 HC.out.2.2.2.1 HC.out.2.2.2.2.2 HSM.out HSX.out HIM.out HIT.out)
      go_wp2_with fail
      show Calls Try.prog 57 #[y.v, .slice cA cn cc] w6 _
      clear p0 p1 p2
      (with_reducible refine HSO.out.mono ?_)
      rintro e w7 ⟨hb7, A', n', c', kA', kn', kc', E', ec', rfl, hR'⟩
      have HR7 := Lib.hid hR'
      have HB7 : Hid (Below w.heap.size w w7) := Lib.hid (HB6.out.trans (hb7.mono HB6.out.size))
      have HS7 := Lib.hid (HS6.out.bel hb7)
      have HV7 := Lib.hid (HV6.out.bel hb7)
      have HRR7 := Lib.hid (HRR6.out.below hb7)
      have hn' := hR'.len
      clear hb7 hR' HSO
      have hnn : n' = n := by have := HNQ.out; omega
      subst hnn
      have hn64 : ¬ ((n' : Int) > 64) := by omega
      obtain ⟨w8, hw8⟩ : ∃ z, z = w7.alloc (.cells #[.slice A' n' c', .slice none 0 0, .slice kA' kn' kc', .int .i64 0, .int .i64 0, .int .i64 0] 115) := ⟨_, rfl⟩
      obtain ⟨tA, htA⟩ : ∃ z, z = w7.heap.size := ⟨_, rfl⟩
      have HBX : Hid (Below w7.heap.size w7 w8) := Lib.hid (by rw [hw8]; exact Below.al (Below.refl _ _) _)
      have HB8 : Hid (Below w.heap.size w w8) := Lib.hid (HB7.out.trans (HBX.out.mono HB7.out.size))
      have HS8 := Lib.hid (HS7.out.bel HBX.out)
      have HV8 := Lib.hid (HV7.out.bel HBX.out)
      have HT8 : Hid (Bk w8 tA 115 #[.slice A' n' c', .slice none 0 0, .slice kA' kn' kc', .int .i64 0, .int .i64 0, .int .i64 0]) := Lib.hid (by rw [hw8, htA]; exact Bk.new _ _ _)
      have HP8 := Lib.hid (HRR7.out.below HBX.out)
      have HQ8 := Lib.hid (HR7.out.below HBX.out)
      have hkk : kn' = kn := by
        have h1 := HP8.out.ct.1
        have h2 := HQ8.out.ct.1
        omega
      subst hkk
      obtain ⟨l1, hl1, hl2⟩ := HP8.out.bm
      obtain ⟨l1', hl1', hl2'⟩ := HQ8.out.bm
      have HEB : Hid (Calls Try.prog 58 #[.slice A n' c, .slice A' n' c', .func (.func 59) #[] #[]] w8 fun e w' => e = .returned (.bool true) ∧ Below w8.heap.size w8 w') := Lib.hid
        (eqBodies_any hl1.len (by omega) (Rd.of_own hl1.own) (Rd.of_own hl1'.own) (Nat.le_refl _) (Nat.le_refl _) hl1.ok hl1'.ok (hl2.trans hl2'.symm))
      have HEN : Hid (∀ wz, Below w8.heap.size w8 wz → Calls Try.prog 60 #[.slice E n' ec, .slice E' n' ec'] wz fun e w' => e = .returned (.bool true) ∧ ∃ m, wz.drewN m = w') := Lib.hid fun wz hb =>
        eq60_any (by rw [List.length_map]; exact HNQ.out) (by omega) (Rd.of_own (HP8.out.below hb).en) (Rd.of_own (HQ8.out.below hb).en)
      have HEC : Hid (∀ wz, Below w8.heap.size w8 wz → Calls Try.prog 61 #[.slice kA kn' kc, .slice kA' kn' kc'] wz fun e w' => e = .returned (.bool true) ∧ ∃ m, wz.drewN m = w') := Lib.hid fun wz hb => by
        have h1 := (HP8.out.below hb).ct
        have h2 := (HQ8.out.below hb).ct
        have hc := own_cap2 h1
        exact eq61_any (l := ctrF (Q0.map Prod.snd) cl) (by have h3 := h1.1; rw [ctCs_len] at h3; omega) (by omega) (Rd.of_own h1) (Rd.of_own h2)
      have z0 : w8.cell? ⟨sA, 0, none⟩ = some (.slice A n' c) := HS8.out.cell 0
      have z1 : w8.cell? ⟨tA, 0, none⟩ = some (.slice A' n' c') := HT8.out.cell 0
      clear hl1 hl2 hl1' hl2' hn' hq HR7 HRR7 HP8 HQ8
      go_upto_region 12 with fail
      rw [← hw8, ← htA]
      clear hw8 htA
      go_wp2_with fail
      (with_reducible refine HEB.out.mono ?_)
      rintro e w9 ⟨rfl, hb9⟩
      have HB9 : Hid (Below w8.heap.size w8 w9) := Lib.hid hb9
      clear hb9 z0 z1 HEB
      go_wp2_with fail
      (with_reducible refine (HEN.out w9 HB9.out).mono ?_)
      rintro e wA ⟨rfl, mA, rfl⟩
      have HBA : Hid (Below w8.heap.size w8 (w9.drewN mA)) := Lib.hid (Below.dn HB9.out mA)
      have z2 : (w9.drewN mA).cell? ⟨sA, 2, none⟩ = some (.slice kA kn' kc) := (HS8.out.bel HBA.out).cell 2
      have z3 : (w9.drewN mA).cell? ⟨tA, 2, none⟩ = some (.slice kA' kn' kc') := (HT8.out.bel HBA.out).cell 2
      go_wp2_with fail
      (with_reducible refine (HEC.out _ HBA.out).mono ?_)
      rintro e wB ⟨rfl, mB, rfl⟩
      have HBB : Hid (Below w8.heap.size w8 ((w9.drewN mA).drewN mB)) := Lib.hid (Below.dn HBA.out mB)
      have y3 : w9.cell? ⟨sA, 3, none⟩ = some (.int .i64 gx) := (HS8.out.bel HB9.out).cell 3
      have y4 : w9.cell? ⟨sA, 4, none⟩ = some (.int .i64 gy) := (HS8.out.bel HB9.out).cell 4
      have y5 : w9.cell? ⟨sA, 5, none⟩ = some (.int .i64 st) := (HS8.out.bel HB9.out).cell 5
      have y1 : w9.cell? ⟨sA, 1, none⟩ = some (.slice none 0 0) := (HS8.out.bel HB9.out).cell 1
      have v0 : w9.cell? ⟨hv, 0, none⟩ = some (.int .i64 gx) := (HV8.out.bel HB9.out).cell 0
      have v1 : w9.cell? ⟨hv, 1, none⟩ = some (.int .i64 gy) := (HV8.out.bel HB9.out).cell 1
      clear z2 z3
      go_wp2_with fail
      go_ret
      exact ⟨rfl, HB8.out.trans ((Below.dn HB9.out (mA + mB)).mono HB8.out.size)⟩
end Go.Proofs.Ytnidcmhfbkdioaa
