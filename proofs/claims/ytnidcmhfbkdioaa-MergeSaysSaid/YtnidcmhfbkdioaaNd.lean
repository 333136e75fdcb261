/-
  The walk of the law MergeTurned. Conditions: three lists of numbers that can be read.
-/
import Derived.Test.YtnidcmhfbkdioaaNb
import Derived.Test.YtnidcmhfbkdioaaNc
namespace Go.Proofs.Ytnidcmhfbkdioaa
open Go.RowKit
set_option maxRecDepth 100000

theorem Bk.far3n {w : World} {g g' : Nat} {t : TypeId} {cs : Array Value} (h : Bk w g t cs) (e : g ≠ g') (i j k : Nat) (a b c : Value) : Bk (((w.setCell ⟨g', i, none⟩ a).setCell ⟨g', j, none⟩ b).setCell ⟨g', k, none⟩ c) g t cs :=
  ((h.far (p := ⟨g', i, none⟩) e a).far (p := ⟨g', j, none⟩) e b).far (p := ⟨g', k, none⟩) e c
theorem Kx.s3n {w w' : World} {g : Nat} (h : Kx 0 [52] w w') (hg : Bk w' g 52 #[.slice none 0 0, .slice none 0 0, .slice none 0 0]) (a b c : Value) : Kx 0 [52] w (((w'.setCell ⟨g, 0, none⟩ a).setCell ⟨g, 1, none⟩ b).setCell ⟨g, 2, none⟩ c) :=
  Kx.set3 h hg (Nat.zero_le _) (by simp) 0 1 2 a b c
theorem check_st {w : World} {X : Wd} (hX : WdY w 0 X) (h : wcheckF X.p = 0) :
    Calls Try.prog 32 #[.agg #[.slice X.kA X.kn X.kc, .slice X.gA X.gn X.gc, .slice X.iA X.im X.ic]] w fun e w' => e = .returned (.int .i64 0) ∧ Below w.heap.size w w' :=
  (wcheck_any hX.ok_).mono fun e w' h1 => ⟨by rw [h1.1, h], h1.2⟩

set_option maxHeartbeats 8000000 in
theorem mergeTurned_any (A A' A2 : Option Addr) (n c n' c' n2 c2 B : Nat) (zs zs' zs2 : List Int) (w : World) (hr : Rd w B 1 A n (zs.map (Value.int .i64))) (hn : n = zs.length) (hnc : n ≤ c) (hc : c ≤ 9223372036854775807) (hz : ∀ z ∈ zs, (Lit.int .i64 z).wf = true)
    (hr' : Rd w B 1 A' n' (zs'.map (Value.int .i64))) (hn' : n' = zs'.length) (hnc' : n' ≤ c') (hc' : c' ≤ 9223372036854775807) (hz' : ∀ z ∈ zs', (Lit.int .i64 z).wf = true)
    (hr2 : Rd w B 1 A2 n2 (zs2.map (Value.int .i64))) (hn2 : n2 = zs2.length) (hnc2 : n2 ≤ c2) (hc2 : c2 ≤ 9223372036854775807) (hz2 : ∀ z ∈ zs2, (Lit.int .i64 z).wf = true) (hB : B ≤ w.heap.size) :
    Calls Try.prog 7 #[.slice A n c, .slice A' n' c', .slice A2 n2 c2] w fun e w' => e = .returned (.bool true) ∧ Below w.heap.size w w' := by
  have HWO := Lib.hid (world_any A n c B zs w hr hn hnc hc hz hB)
  have HMG := Lib.hid merges_any
  have HCH := Lib.hid (fun (x : Wd) (wx : World) (hb : Below w.heap.size w wx) (hx : WdY wx 0 x) (hv : VW holdK x.p) (hck : checkF x.p.ks = 0) (h256 : x.gens.length < 256) => changed_any x A' n' c' B zs' wx hx hv hck h256 (hr'.below (hb.mono hB)) hn' hnc' hc' hz' (Nat.le_trans hB hb.size))
  have HCH2 := Lib.hid (fun (x : Wd) (wx : World) (hb : Below w.heap.size w wx) (hx : WdY wx 0 x) (hv : VW holdK x.p) (hck : checkF x.p.ks = 0) (h256 : x.gens.length < 256) => changed_any x A2 n2 c2 B zs2 wx hx hv hck h256 (hr2.below (hb.mono hB)) hn2 hnc2 hc2 hz2 (Nat.le_trans hB hb.size))
  clear hr hn hnc hc hz hr' hn' hnc' hc' hz' hr2 hn2 hnc2 hc2 hz2
  go_enter Try.func7, Try.ntmps7
  go_wp2_with fail
  (with_reducible refine HWO.out.mono ?_)
  rintro e w1 ⟨y, rfl, hy, hb1⟩
  obtain ⟨W1, hW1⟩ : ∃ W1, W1 = w1.alloc (.cells #[.slice y.kA y.kn y.kc, .slice y.gA y.gn y.gc, .slice y.iA y.im y.ic] 52) := ⟨_, rfl⟩
  obtain ⟨bY, hbY⟩ : ∃ b, b = w1.heap.size := ⟨_, rfl⟩
  have HY1 : Hid (St W1 bY y) := Lib.hid (by rw [hW1, hbY]; exact St.new hy.out.1)
  have HB1 : Hid (Below w.heap.size w W1) := Lib.hid (by rw [hW1]; exact hb1.alloc hb1.size _)
  have HY : Hid (VW holdK y.p ∧ checkF y.p.ks = 0 ∧ y.p.gens.length ≤ 11) := Lib.hid hy.out.2
  clear hy hb1 HWO
  dsimp only [Wd.v]
  go_upto_region 2 with fail
  rw [← hW1, ← hbY]
  clear hW1 hbY
  have hlt := HY1.out.1.lt
  have hca : ∀ wx, Below W1.heap.size W1 wx → Calls Try.prog 30 #[.agg #[.slice y.kA y.kn y.kc, .slice y.gA y.gn y.gc, .slice y.iA y.im y.ic], .slice A' n' c'] wx fun e w' => ∃ a : Wd, e = .returned (.agg #[.slice a.kA a.kn a.kc, .slice a.gA a.gn a.gc, .slice a.iA a.im a.ic]) ∧ Hid (WdY w' 0 a ∧ VW holdK a.p ∧ Newer y.p a.p ∧ a.p.ks = y.p.ks) ∧ Below wx.heap.size wx w' ∧ Below W1.heap.size W1 w' := fun wx hb =>
    (HCH.out y wx (HB1.out.trans (hb.mono HB1.out.size)) (HY1.out.2.below hb) HY.out.1 HY.out.2.1 (by have h : y.gens.length ≤ 11 := HY.out.2.2; omega)).mono fun e w' ⟨a, h1, h2, h3⟩ => ⟨a, h1, h2, h3, Below.tr hb h3⟩
  have hcb : ∀ wx, Below W1.heap.size W1 wx → Calls Try.prog 30 #[.agg #[.slice y.kA y.kn y.kc, .slice y.gA y.gn y.gc, .slice y.iA y.im y.ic], .slice A2 n2 c2] wx fun e w' => ∃ a : Wd, e = .returned (.agg #[.slice a.kA a.kn a.kc, .slice a.gA a.gn a.gc, .slice a.iA a.im a.ic]) ∧ Hid (WdY w' 0 a ∧ VW holdK a.p ∧ Newer y.p a.p ∧ a.p.ks = y.p.ks) ∧ Below wx.heap.size wx w' ∧ Below W1.heap.size W1 w' := fun wx hb =>
    (HCH2.out y wx (HB1.out.trans (hb.mono HB1.out.size)) (HY1.out.2.below hb) HY.out.1 HY.out.2.1 (by have h : y.gens.length ≤ 11 := HY.out.2.2; omega)).mono fun e w' ⟨a, h1, h2, h3⟩ => ⟨a, h1, h2, h3, Below.tr hb h3⟩
  have HCA := Lib.hid hca
  have HCB := Lib.hid hcb
  have HSS : Hid (∀ wx, Below W1.heap.size W1 wx → wx.cell? ⟨bY, 0, none⟩ = some (.slice y.kA y.kn y.kc) ∧ wx.cell? ⟨bY, 1, none⟩ = some (.slice y.gA y.gn y.gc) ∧ wx.cell? ⟨bY, 2, none⟩ = some (.slice y.iA y.im y.ic)) := Lib.hid fun wx hb => (HY1.out.below hb).cs
  clear hca hcb HCH HCH2
  go_cut [8, 9] from 18 to 23 (fun pv qv wx => ∃ (a b : Wd) (bA bB : Nat), pv = .pointer (some ⟨bA, 0, none⟩) ∧ qv = .pointer (some ⟨bB, 0, none⟩) ∧ Hid (St wx bA a ∧ VW holdK a.p ∧ Newer y.p a.p ∧ a.p.ks = y.p.ks) ∧ Hid (St wx bB b ∧ VW holdK b.p ∧ Newer y.p b.p ∧ b.p.ks = y.p.ks) ∧ Hid (Below W1.heap.size W1 wx))
  case first =>
    rename_i J0 Kp0 A1 A0
    go_region_held3 (fun wx => wx.cell? ⟨bY, 0, none⟩ = some (.slice y.kA y.kn y.kc) ∧ wx.cell? ⟨bY, 1, none⟩ = some (.slice y.gA y.gn y.gc) ∧ wx.cell? ⟨bY, 2, none⟩ = some (.slice y.iA y.im y.ic))
      (((with_reducible refine HSS.out _ ?_); (repeat' first | with_reducible exact Below.refl _ _ | with_reducible assumption | with_reducible refine Below.drew ?_ | with_reducible refine Below.al ?_ _ | with_reducible refine Below.setCell ?_ (by (try simp); (try omega)) _)))
      (first
        | (go_at_call 30
           (with_reducible show Calls Try.prog 30 #[.agg #[.slice y.kA y.kn y.kc, .slice y.gA y.gn y.gc, .slice y.iA y.im y.ic], .slice A' n' c'] _ _)
           (with_reducible refine (HCA.out _ ?hbel).mono ?_)
           case hbel => (repeat' first | with_reducible exact Below.refl _ _ | with_reducible assumption | with_reducible refine Below.drew ?_ | with_reducible refine Below.al ?_ _)
           rintro e w3 ⟨a, rfl, ha3, hb3, hB3⟩
           have hz3 := hb3.size
           (try simp at hz3)
           (try (have k0 := fun o => bcell hb3 W1.heap.size (by first | (simp; done) | (simp; omega) | fail) o
                 have f0 := fun o => bfroz hb3 W1.heap.size (by first | (simp; done) | (simp; omega) | fail) o))
           (try (have k1 := fun o => bcell hb3 (W1.heap.size + 1) (by first | (simp; done) | (simp; omega) | fail) o
                 have f1 := fun o => bfroz hb3 (W1.heap.size + 1) (by first | (simp; done) | (simp; omega) | fail) o)))
        | (go_at_call 30
           (with_reducible show Calls Try.prog 30 #[.agg #[.slice y.kA y.kn y.kc, .slice y.gA y.gn y.gc, .slice y.iA y.im y.ic], .slice A2 n2 c2] _ _)
           (with_reducible refine (HCB.out _ ?hbel).mono ?_)
           case hbel => (repeat' first | with_reducible exact Below.refl _ _ | with_reducible assumption | with_reducible refine Below.drew ?_ | with_reducible refine Below.al ?_ _)
           rintro e w5 ⟨b, rfl, hb5a, hb5, hB5⟩
           have hb35 : Below w3.heap.size w3 w5 := by
             refine Below.tr ?_ hb5
             (repeat' first | with_reducible exact Below.refl _ _ | with_reducible assumption | with_reducible refine Below.drew ?_ | with_reducible refine Below.al ?_ _)
           have hz5 := hb5.size
           (try simp at hz5)
           (try (have k2 := fun o => (bcell hb35 W1.heap.size (by omega) o).trans (k0 o)
                 have f2 := fun o => (bfroz hb35 W1.heap.size (by omega) o).trans (f0 o)
                 have k2b := fun o ob => (bcell (Below.al hb35 ob) W1.heap.size (by omega) o).trans (k0 o)
                 have f2b := fun o ob => (bfroz (Below.al hb35 ob) W1.heap.size (by omega) o).trans (f0 o)))
           (try (have k3 := fun o => (bcell hb35 (W1.heap.size + 1) (by omega) o).trans (k1 o)
                 have f3 := fun o => (bfroz hb35 (W1.heap.size + 1) (by omega) o).trans (f1 o)
                 have k3b := fun o ob => (bcell (Below.al hb35 ob) (W1.heap.size + 1) (by omega) o).trans (k1 o)
                 have f3b := fun o ob => (bfroz (Below.al hb35 ob) (W1.heap.size + 1) (by omega) o).trans (f1 o)))
           (try (have k4 := fun o => bcell hb5 w3.heap.size (by first | (simp; done) | (simp; omega) | fail) o
                 have f4 := fun o => bfroz hb5 w3.heap.size (by first | (simp; done) | (simp; omega) | fail) o
                 have k4b := fun o ob => bcell (Below.al hb5 ob) w3.heap.size (by first | (simp; done) | (simp; omega) | fail) o
                 have f4b := fun o ob => bfroz (Below.al hb5 ob) w3.heap.size (by first | (simp; done) | (simp; omega) | fail) o))
           (try (have k5 := fun o => bcell hb5 (w3.heap.size + 1) (by first | (simp; done) | (simp; omega) | fail) o
                 have f5 := fun o => bfroz hb5 (w3.heap.size + 1) (by first | (simp; done) | (simp; omega) | fail) o
                 have k5b := fun o ob => bcell (Below.al hb5 ob) (w3.heap.size + 1) (by first | (simp; done) | (simp; omega) | fail) o
                 have f5b := fun o ob => bfroz (Below.al hb5 ob) (w3.heap.size + 1) (by first | (simp; done) | (simp; omega) | fail) o))))
    all_goals
      refine A0 _ _ (Met.intro (A1 _ _ ?_))
      (repeat apply Exists.intro)
      refine And.intro ?_ rfl
      have hz4 := hB3.size
      have hz6 := hB5.size
      refine ⟨a, b, _, _, rfl, rfl, Lib.hid ⟨⟨?h1, WdY.keep (F := [52]) (ha3.out.1.below hb35) ?h2 (by decide) (by decide) (by decide) (by decide) (by decide)⟩, ha3.out.2⟩, Lib.hid ⟨⟨?h3, WdY.keep (F := [52]) hb5a.out.1 ?h4 (by decide) (by decide) (by decide) (by decide) (by decide)⟩, hb5a.out.2⟩, Lib.hid ?h5⟩
      case h1 => (repeat' first | with_reducible exact Bk.new _ _ _ | with_reducible exact Bk.two _ _ _ _ | with_reducible refine Bk.set3 (x := .slice none 0 0) (y := .slice none 0 0) (z := .slice none 0 0) ?_ _ _ _ | with_reducible refine Bk.far3n ?_ (by omega) _ _ _ _ _ _ | with_reducible refine Bk.drew ?_ | with_reducible refine Bk.alloc ?_ _ | with_reducible refine Bk.below2 ?_ hb5 | with_reducible refine Bk.below2 ?_ hb3)
      case h2 =>
        (repeat' first | with_reducible exact Kx.refl | with_reducible refine Kx.s3n ?_ ?_ _ _ _ | with_reducible refine Kx.alloc ?_ _)
        all_goals (repeat' first | with_reducible exact Bk.new _ _ _ | with_reducible exact Bk.two _ _ _ _ | with_reducible refine Bk.set3 (x := .slice none 0 0) (y := .slice none 0 0) (z := .slice none 0 0) ?_ _ _ _ | with_reducible refine Bk.far3n ?_ (by omega) _ _ _ _ _ _ | with_reducible refine Bk.drew ?_ | with_reducible refine Bk.alloc ?_ _ | with_reducible refine Bk.below2 ?_ hb5 | with_reducible refine Bk.below2 ?_ hb3)
      case h3 => (repeat' first | with_reducible exact Bk.new _ _ _ | with_reducible exact Bk.two _ _ _ _ | with_reducible refine Bk.set3 (x := .slice none 0 0) (y := .slice none 0 0) (z := .slice none 0 0) ?_ _ _ _ | with_reducible refine Bk.far3n ?_ (by omega) _ _ _ _ _ _ | with_reducible refine Bk.drew ?_ | with_reducible refine Bk.alloc ?_ _ | with_reducible refine Bk.below2 ?_ hb5 | with_reducible refine Bk.below2 ?_ hb3)
      case h4 =>
        (repeat' first | with_reducible exact Kx.refl | with_reducible refine Kx.s3n ?_ ?_ _ _ _ | with_reducible refine Kx.alloc ?_ _)
        all_goals (repeat' first | with_reducible exact Bk.new _ _ _ | with_reducible exact Bk.two _ _ _ _ | with_reducible refine Bk.set3 (x := .slice none 0 0) (y := .slice none 0 0) (z := .slice none 0 0) ?_ _ _ _ | with_reducible refine Bk.far3n ?_ (by omega) _ _ _ _ _ _ | with_reducible refine Bk.drew ?_ | with_reducible refine Bk.alloc ?_ _ | with_reducible refine Bk.below2 ?_ hb5 | with_reducible refine Bk.below2 ?_ hb3)
      case h5 => (repeat' first | with_reducible exact Below.refl _ _ | with_reducible assumption | with_reducible refine Below.drew ?_ | with_reducible refine Below.al ?_ _ | with_reducible refine Below.setCell ?_ (by dsimp only; omega) _)
  case rest =>
    obtain ⟨a, b, bA, bB, rfl, rfl, HA, HBb, HBL⟩ := hcut
    have HY2 : Hid (St wc bY y) := Lib.hid (HY1.out.below HBL.out)
    have HB2 : Hid (Below w.heap.size w wc) := Lib.hid (HB1.out.trans (HBL.out.mono HB1.out.size))
    have HWC : Hid (mergeC y.p a.p b.p = mergeC y.p b.p a.p ∧ (mergeC y.p a.p b.p = [] → mergeF y.p a.p b.p = mergeF y.p b.p a.p)) := Lib.hid ⟨mergeC_turn holdK_len HA.out.2.1 HBb.out.2.1 HA.out.2.2.2 HBb.out.2.2.2, mergeF_turn holdK_len HA.out.2.1 HBb.out.2.1 HA.out.2.2.2 HBb.out.2.2.2⟩
    have HOK : Hid (wcheckF (mergeF y.p a.p b.p) = 0 ∧ wcheckF (mergeF y.p b.p a.p) = 0) := Lib.hid ⟨check_of HY.out.2.1 (merge_ok holdK_mix HY.out.1 HA.out.2.1 HBb.out.2.1 HA.out.2.2.2 HBb.out.2.2.2), check_of HY.out.2.1 (merge_ok holdK_mix HY.out.1 HBb.out.2.1 HA.out.2.1 HBb.out.2.2.2 HA.out.2.2.2)⟩
    obtain ⟨y0, y1, y2⟩ := HY2.out.cs
    obtain ⟨a0, a1, a2⟩ := HA.out.1.cs
    obtain ⟨e0, e1, e2⟩ := HBb.out.1.cs
    have HT := Lib.hid (three_st HY2.out.2 HA.out.1.2 HBb.out.1.2 HY.out.2.1 HY.out.1 HA.out.2.1 HBb.out.2.1 HA.out.2.2.2 HBb.out.2.2.2)
    clear HCA HCB HSS HBL HY1 HB1
    go_wp2_with fail
    (with_reducible refine HT.out.mono ?_)
    rintro e w3 ⟨p, CA, m, mc, rfl, hp, hm, hb3⟩
    clear HT y0 y1 y2 a0 a1 a2 e0 e1 e2
    obtain ⟨W3, hW3⟩ : ∃ W3, W3 = w3.alloc (.cells #[.slice p.kA p.kn p.kc, .slice p.gA p.gn p.gc, .slice p.iA p.im p.ic] 52) := ⟨_, rfl⟩
    obtain ⟨bP, hbP⟩ : ∃ b, b = w3.heap.size := ⟨_, rfl⟩
    have HP3 : Hid (St W3 bP p ∧ p.p = mergeF y.p a.p b.p) := Lib.hid ⟨by rw [hW3, hbP]; exact St.new hp.out.1, hp.out.2⟩
    have HPE : Hid (p.p = mergeF y.p a.p b.p) := Lib.hid hp.out.2
    have HM3 : Hid (m = (mergeC y.p a.p b.p).length ∧ m ≤ mc ∧ mc ≤ 9223372036854775807 ∧ RdY W3 0 73 4 CA m (clCs (mergeC y.p a.p b.p))) := Lib.hid ⟨hm.out.1, hm.out.2.1, hm.out.2.2.1, hm.out.2.2.2.keep (F := []) (by rw [hW3]; exact (Kx.refl (B := 0)).alloc _) (by simp)⟩
    have HA3 : Hid (St W3 bA a) := Lib.hid (by rw [hW3]; exact (HA.out.1.below hb3).alloc _)
    have HB3b : Hid (St W3 bB b) := Lib.hid (by rw [hW3]; exact (HBb.out.1.below hb3).alloc _)
    have HY3 : Hid (St W3 bY y) := Lib.hid (by rw [hW3]; exact (HY2.out.below hb3).alloc _)
    have HB3 : Hid (Below w.heap.size w W3) := Lib.hid (by rw [hW3]; exact ((HB2.out.trans (hb3.mono HB2.out.size)).alloc (HB2.out.trans (hb3.mono HB2.out.size)).size _))
    obtain ⟨y0, y1, y2⟩ := HY3.out.cs
    obtain ⟨a0, a1, a2⟩ := HA3.out.cs
    obtain ⟨e0, e1, e2⟩ := HB3b.out.cs
    clear hp hm hb3 HB2 HY2
    go_upto_region 4 with fail
    rw [← hW3, ← hbP]
    clear hW3 hbP
    have HT := Lib.hid (three_st HY3.out.2 HB3b.out.2 HA3.out.2 HY.out.2.1 HY.out.1 HBb.out.2.1 HA.out.2.1 HBb.out.2.2.2 HA.out.2.2.2)
    go_wp2_with fail
    (with_reducible refine HT.out.mono ?_)
    rintro e w4 ⟨q, DA, m', dc, rfl, hp, hm, hb3⟩
    have hmm : m' = m := by rw [hm.out.1, HM3.out.1, HWC.out.1]
    subst hmm
    clear HT y0 y1 y2 a0 a1 a2 e0 e1 e2
    obtain ⟨W4, hW4⟩ : ∃ W4, W4 = w4.alloc (.cells #[.slice q.kA q.kn q.kc, .slice q.gA q.gn q.gc, .slice q.iA q.im q.ic] 52) := ⟨_, rfl⟩
    obtain ⟨bQ, hbQ⟩ : ∃ b, b = w4.heap.size := ⟨_, rfl⟩
    have HQ4 : Hid (St W4 bQ q ∧ q.p = mergeF y.p b.p a.p) := Lib.hid ⟨by rw [hW4, hbQ]; exact St.new hp.out.1, hp.out.2⟩
    have HQE : Hid (q.p = mergeF y.p b.p a.p) := Lib.hid hp.out.2
    have HP4 : Hid (St W4 bP p) := Lib.hid (by rw [hW4]; exact (HP3.out.1.below hb3).alloc _)
    have HM4 : Hid (RdY W4 0 73 4 CA m' (clCs (mergeC y.p a.p b.p)) ∧ RdY W4 0 73 4 DA m' (clCs (mergeC y.p a.p b.p))) := Lib.hid ⟨HM3.out.2.2.2.keep (F := []) (by rw [hW4]; exact (Kx.of_below (B := 0) hb3).alloc _) (by simp), by rw [HWC.out.1]; exact hm.out.2.2.2.keep (F := []) (by rw [hW4]; exact (Kx.refl (B := 0)).alloc _) (by simp)⟩
    have HB4 : Hid (Below w.heap.size w W4) := Lib.hid (by rw [hW4]; exact ((HB3.out.trans (hb3.mono HB3.out.size)).alloc (HB3.out.trans (hb3.mono HB3.out.size)).size _))
    have HML : Hid (m' = (mergeC y.p a.p b.p).length) := Lib.hid HM3.out.1
    have hmc : m' ≤ 9223372036854775807 := by have h := HM3.out; omega
    clear hp hm hb3 HB3 HY3 HA3 HB3b HP3 HM3 HA HBb
    go_upto_region 5 with fail
    rw [← hW4, ← hbQ]
    clear hW4 hbQ
    go_wp2_with fail
    (with_reducible refine (HMG.out _).mono ?_)
    rintro e w6 ⟨rfl, hb6⟩
    have HP6 : Hid (St w6 bP p) := Lib.hid (HP4.out.below hb6)
    have HQ6 : Hid (St w6 bQ q) := Lib.hid (HQ4.out.1.below hb6)
    have HB6 : Hid (Below w.heap.size w w6) := Lib.hid (HB4.out.trans (hb6.mono HB4.out.size))
    have HE := Lib.hid (equalCl_same CA DA m' mc dc w6.heap.size (mergeC y.p a.p b.p) w6 HML.out hmc (HM4.out.1.keep (F := []) (Kx.of_below (B := 0) hb6) (by simp)).rd (HM4.out.2.keep (F := []) (Kx.of_below (B := 0) hb6) (by simp)).rd)
    clear hb6 HP4 HB4 HM4
    go_wp2_with fail
    (with_reducible refine HE.out.mono ?_)
    rintro e w7 ⟨rfl, k7, rfl⟩
    have HP7 : Hid (St (w6.drewN k7) bP p) := Lib.hid (HP6.out.below (below_dn (Below.refl _ _) k7))
    have HQ7 : Hid (St (w6.drewN k7) bQ q) := Lib.hid (HQ6.out.below (below_dn (Below.refl _ _) k7))
    have HB7 : Hid (Below w.heap.size w (w6.drewN k7)) := Lib.hid (below_dn HB6.out k7)
    generalize w6.drewN k7 = w7 at *
    obtain ⟨p0, p1, p2⟩ := HP7.out.cs
    have HT := Lib.hid (check_st HP7.out.2 (by rw [HPE.out]; exact HOK.out.1))
    clear HE HP6 HQ6 HB6
    go_wp2_with fail
    (with_reducible refine HT.out.mono ?_)
    rintro e w8 ⟨rfl, hb8⟩
    have HP8 : Hid (St w8 bP p) := Lib.hid (HP7.out.below hb8)
    have HQ8 : Hid (St w8 bQ q) := Lib.hid (HQ7.out.below hb8)
    have HB8 : Hid (Below w.heap.size w w8) := Lib.hid (HB7.out.trans (hb8.mono HB7.out.size))
    clear p0 p1 p2 HT hb8 HP7 HQ7 HB7
    obtain ⟨p0, p1, p2⟩ := HQ8.out.cs
    have HT := Lib.hid (check_st HQ8.out.2 (by rw [HQE.out]; exact HOK.out.2))
    go_wp2_with fail
    (with_reducible refine HT.out.mono ?_)
    rintro e w9 ⟨rfl, hb9⟩
    have HP9 : Hid (St w9 bP p) := Lib.hid (HP8.out.below hb9)
    have HQ9 : Hid (St w9 bQ q) := Lib.hid (HQ8.out.below hb9)
    have HB9 : Hid (Below w.heap.size w w9) := Lib.hid (HB8.out.trans (hb9.mono HB8.out.size))
    clear p0 p1 p2 HT hb9 HP8 HQ8 HB8
    by_cases hm0 : 0 < m'
    · have hmz : (m' : Int) > 0 := by omega
      go_wp2_with fail
      go_ret
      exact ⟨rfl, HB9.out⟩
    · obtain rfl : m' = 0 := by omega
      have he : p.p = q.p := HPE.out.trans ((HWC.out.2 (List.eq_nil_of_length_eq_zero HML.out.symm)).trans HQE.out.symm)
      have HT := Lib.hid (same_st HP9.out.2 HQ9.out.2 he)
      clear he
      obtain ⟨p0, p1, p2⟩ := HP9.out.cs
      obtain ⟨q0, q1, q2⟩ := HQ9.out.cs
      go_wp2_with fail
      (with_reducible refine HT.out.mono ?_)
      rintro e wA ⟨rfl, hbA⟩
      clear p0 p1 p2 q0 q1 q2
      go_wp2_with fail
      go_ret
      exact ⟨rfl, HB9.out.trans (hbA.mono HB9.out.size)⟩
end Go.Proofs.Ytnidcmhfbkdioaa
