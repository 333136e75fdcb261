/-
  The walk of the law MergeSays. Conditions: three worlds and three lists of numbers that can be read.
-/
import Derived.Test.YtnidcmhfbkdioaaNd
import Derived.Test.YtnidcmhfbkdioaaOg
import Derived.Test.YtnidcmhfbkdioaaOi
import Derived.Test.YtnidcmhfbkdioaaOj
namespace Go.Proofs.Ytnidcmhfbkdioaa
open Go.RowKit
set_option maxRecDepth 100000

/-- A world in a block, read in any way. -/
def Sk (w : World) (b : Nat) (x : Wd) : Prop := Bk w b 52 #[.slice x.kA x.kn x.kc, .slice x.gA x.gn x.gc, .slice x.iA x.im x.ic] ∧ WdOk w w.heap.size x
theorem Sk.below {w w' : World} {b : Nat} {x : Wd} (h : Sk w b x) (hb : Below w.heap.size w w') : Sk w' b x := ⟨h.1.below hb h.1.lt, (h.2.below hb).more hb.size (Nat.le_refl _)⟩
theorem Sk.alloc {w : World} {b : Nat} {x : Wd} (h : Sk w b x) (o : Obj) : Sk (w.alloc o) b x := h.below ((Below.refl _ _).alloc (Nat.le_refl _) o)
theorem Sk.cs {w : World} {b : Nat} {x : Wd} (h : Sk w b x) : w.cell? ⟨b, 0, none⟩ = some (.slice x.kA x.kn x.kc) ∧ w.cell? ⟨b, 1, none⟩ = some (.slice x.gA x.gn x.gc) ∧ w.cell? ⟨b, 2, none⟩ = some (.slice x.iA x.im x.ic) := ⟨h.1.cell 0, h.1.cell 1, h.1.cell 2⟩
theorem St.sk {w : World} {b : Nat} {x : Wd} (h : St w b x) : Sk w b x := ⟨h.1, h.2.ok_⟩

theorem three_any {w : World} {B : Nat} {O X Y : Wd} (hO : WdOk w B O) (hX : WdOk w B X) (hY : WdOk w B Y) :
    Calls Try.prog 31 #[.agg #[.slice O.kA O.kn O.kc, .slice O.gA O.gn O.gc, .slice O.iA O.im O.ic], .agg #[.slice X.kA X.kn X.kc, .slice X.gA X.gn X.gc, .slice X.iA X.im X.ic], .agg #[.slice Y.kA Y.kn Y.kc, .slice Y.gA Y.gn Y.gc, .slice Y.iA Y.im Y.ic]] w fun e w' =>
      ∃ (Z : Wd) (CA : Option Addr) (n c : Nat), e = .returned (.tuple #[.agg #[.slice Z.kA Z.kn Z.kc, .slice Z.gA Z.gn Z.gc, .slice Z.iA Z.im Z.ic], .slice CA n c, .int .i64 (badF O.p X.p Y.p)]) ∧
        Hid (badF O.p X.p Y.p = 0 → (WdY w' 0 Z ∧ Z.p = mergeF O.p X.p Y.p) ∧ n = (mergeC O.p X.p Y.p).length ∧ n ≤ c ∧ c ≤ 9223372036854775807 ∧ RdY w' 0 73 4 CA n (clCs (mergeC O.p X.p Y.p))) ∧
        Hid (badF O.p X.p Y.p ≠ 0 → Z.kn = 0 ∧ n = 0) ∧ Below w.heap.size w w' := by
  by_cases h : badF O.p X.p Y.p = 0
  · obtain ⟨h1, h2, h3, h4, h5⟩ := badF_zero h
    refine (three_ok hO hX hY h1 h2 h3 h4 h5).mono ?_
    rintro e w' ⟨Z, CA, n, c, rfl, hZ, hn, hb⟩
    exact ⟨Z, CA, n, c, by rw [h]; rfl, Lib.hid fun _ => ⟨hZ.out, hn.out⟩, Lib.hid fun h6 => absurd h h6, hb⟩
  · refine (three_bad hO hX hY h).mono ?_
    rintro e w' ⟨rfl, hb⟩
    exact ⟨⟨none, 0, 0, [], none, 0, 0, [], none, 0, 0, []⟩, none, 0, 0, rfl, Lib.hid fun h6 => absurd h6 h, Lib.hid fun _ => ⟨rfl, rfl⟩, hb⟩

theorem far_cell3 {w : World} {g b i j1 j2 j3 : Nat} {x y z : Value} {v : Value} (hne : g ≠ b) (h : w.cell? ⟨b, i, none⟩ = some v) : (((w.setCell ⟨g, j1, none⟩ x).setCell ⟨g, j2, none⟩ y).setCell ⟨g, j3, none⟩ z).cell? ⟨b, i, none⟩ = some v := by
  rw [World.cell?_setCell_far _ _ _ _ (by exact hne), World.cell?_setCell_far _ _ _ _ (by exact hne), World.cell?_setCell_far _ _ _ _ (by exact hne)]; exact h

set_option maxHeartbeats 8000000 in
theorem mergeSays_any (O0 X0 Y0 : Wd) (A A' A2 : Option Addr) (n c n' c' n2 c2 B : Nat) (zs zs' zs2 : List Int) (w : World) (hO : WdOk w B O0) (hX : WdOk w B X0) (hY : WdOk w B Y0) (hr : Rd w B 1 A n (zs.map (Value.int .i64))) (hn : n = zs.length) (hnc : n ≤ c) (hc : c ≤ 9223372036854775807) (hz : ∀ z ∈ zs, (Lit.int .i64 z).wf = true)
    (hr' : Rd w B 1 A' n' (zs'.map (Value.int .i64))) (hn' : n' = zs'.length) (hnc' : n' ≤ c') (hc' : c' ≤ 9223372036854775807) (hz' : ∀ z ∈ zs', (Lit.int .i64 z).wf = true)
    (hr2 : Rd w B 1 A2 n2 (zs2.map (Value.int .i64))) (hn2 : n2 = zs2.length) (hnc2 : n2 ≤ c2) (hc2 : c2 ≤ 9223372036854775807) (hz2 : ∀ z ∈ zs2, (Lit.int .i64 z).wf = true) (hB : B ≤ w.heap.size) :
    Calls Try.prog 5 #[.agg #[.slice O0.kA O0.kn O0.kc, .slice O0.gA O0.gn O0.gc, .slice O0.iA O0.im O0.ic], .agg #[.slice X0.kA X0.kn X0.kc, .slice X0.gA X0.gn X0.gc, .slice X0.iA X0.im X0.ic], .agg #[.slice Y0.kA Y0.kn Y0.kc, .slice Y0.gA Y0.gn Y0.gc, .slice Y0.iA Y0.im Y0.ic], .slice A n c, .slice A' n' c', .slice A2 n2 c2] w fun e w' => e = .returned (.bool true) ∧ Below w.heap.size w w' := by
  have HMG := Lib.hid merges36_any
  obtain ⟨W0, hW0⟩ : ∃ W0, W0 = ((w.alloc (.cells #[.slice O0.kA O0.kn O0.kc, .slice O0.gA O0.gn O0.gc, .slice O0.iA O0.im O0.ic] 52)).alloc (.cells #[.slice X0.kA X0.kn X0.kc, .slice X0.gA X0.gn X0.gc, .slice X0.iA X0.im X0.ic] 52)).alloc (.cells #[.slice Y0.kA Y0.kn Y0.kc, .slice Y0.gA Y0.gn Y0.gc, .slice Y0.iA Y0.im Y0.ic] 52) := ⟨_, rfl⟩
  have hb0 : Below w.heap.size w W0 := by rw [hW0]; exact Below.al (Below.al (Below.al (Below.refl _ _) _) _) _
  have hs0 : B ≤ W0.heap.size := Nat.le_trans hB hb0.size
  have k0 : Sk W0 w.heap.size O0 := ⟨by rw [hW0]; exact ((Bk.new _ _ _).alloc _).alloc _, (hO.below (hb0.mono hB)).more hs0 (Nat.le_refl _)⟩
  have k1 : Sk W0 (w.heap.size + 1) X0 := ⟨by rw [hW0]; exact (Bk.two _ _ _ _).alloc _, (hX.below (hb0.mono hB)).more hs0 (Nat.le_refl _)⟩
  have k2 : Sk W0 (w.heap.size + 1 + 1) Y0 := ⟨by rw [hW0]; exact Bk.three _ _ _ _ _, (hY.below (hb0.mono hB)).more hs0 (Nat.le_refl _)⟩
  have HWO := Lib.hid (fun (_ : 0 < n) (wx : World) (hb : Below w.heap.size w wx) => world_any A n c B zs wx (hr.below (hb.mono hB)) hn hnc hc hz (Nat.le_trans hB hb.size))
  have HCH := Lib.hid (fun (x : Wd) (wx : World) (hb : Below w.heap.size w wx) (hx : WdY wx 0 x) (hv : VW holdK x.p) (hck : checkF x.p.ks = 0) (h256 : x.gens.length < 256) => changed_any x A' n' c' B zs' wx hx hv hck h256 (hr'.below (hb.mono hB)) hn' hnc' hc' hz' (Nat.le_trans hB hb.size))
  have HCH2 := Lib.hid (fun (x : Wd) (wx : World) (hb : Below w.heap.size w wx) (hx : WdY wx 0 x) (hv : VW holdK x.p) (hck : checkF x.p.ks = 0) (h256 : x.gens.length < 256) => changed_any x A2 n2 c2 B zs2 wx hx hv hck h256 (hr2.below (hb.mono hB)) hn2 hnc2 hc2 hz2 (Nat.le_trans hB hb.size))
  have HK0 := Lib.hid (And.intro k0 (And.intro k1 k2))
  have HB0 := Lib.hid hb0
  clear hr hn hnc hc hz hr' hn' hnc' hc' hz' hr2 hn2 hnc2 hc2 hz2 hO hX hY k0 k1 k2 hb0 hs0
  go_enter Try.func5, Try.ntmps5
  go_upto_region 1 with fail
  rw [← hW0]
  clear hW0
  go_upto_if 25 with fail
  go_cut [25] from 25 to 33 (fun _ wx => ∃ O X Y : Wd, Hid (Sk wx w.heap.size O ∧ Sk wx (w.heap.size + 1) X ∧ Sk wx (w.heap.size + 1 + 1) Y) ∧ Hid (Below w.heap.size w wx))
  case first =>
    rename_i J0 Kp0 A1 A0
    by_cases hl : 0 < n
    · have hz : (n : Int) > 0 := by omega
      have b0 := HK0.out.1.1
      have c0 : W0.cell? ⟨w.heap.size, 0, none⟩ = some (.slice O0.kA O0.kn O0.kc) := b0.cell 0
      have c1 : W0.cell? ⟨w.heap.size, 1, none⟩ = some (.slice O0.gA O0.gn O0.gc) := b0.cell 1
      have c2 : W0.cell? ⟨w.heap.size, 2, none⟩ = some (.slice O0.iA O0.im O0.ic) := b0.cell 2
      clear b0
      go_wp2_with fail
      (with_reducible refine (HWO.out hl W0 HB0.out).mono ?_)
      rintro e w1 ⟨y, rfl, hy, hb1⟩
      have b0 : Bk w1 w.heap.size 52 #[.slice O0.kA O0.kn O0.kc, .slice O0.gA O0.gn O0.gc, .slice O0.iA O0.im O0.ic] := HK0.out.1.1.below hb1 HK0.out.1.1.lt
      have b1 : Bk w1 (w.heap.size + 1) 52 #[.slice X0.kA X0.kn X0.kc, .slice X0.gA X0.gn X0.gc, .slice X0.iA X0.im X0.ic] := HK0.out.2.1.1.below hb1 HK0.out.2.1.1.lt
      have b2 : Bk w1 (w.heap.size + 1 + 1) 52 #[.slice Y0.kA Y0.kn Y0.kc, .slice Y0.gA Y0.gn Y0.gc, .slice Y0.iA Y0.im Y0.ic] := HK0.out.2.2.1.below hb1 HK0.out.2.2.1.lt
      have d0 : w1.cell? ⟨w.heap.size, 0, none⟩ = some (.slice O0.kA O0.kn O0.kc) := b0.cell 0
      have d1 : w1.cell? ⟨w.heap.size, 1, none⟩ = some (.slice O0.gA O0.gn O0.gc) := b0.cell 1
      have d2 : w1.cell? ⟨w.heap.size, 2, none⟩ = some (.slice O0.iA O0.im O0.ic) := b0.cell 2
      have m0 := b0.frozen 0
      have m1 := b0.frozen 1
      have m2 := b0.frozen 2
      dsimp only [Wd.v]
      go_wp2_with fail
      have hbs : w1.heap.size = (((w1.setCell ⟨w.heap.size, 0, none⟩ (.slice y.kA y.kn y.kc)).setCell ⟨w.heap.size, 1, none⟩ (.slice y.gA y.gn y.gc)).setCell ⟨w.heap.size, 2, none⟩ (.slice y.iA y.im y.ic)).heap.size := by simp
      have hkx : Kx 0 [52] w1 (((w1.setCell ⟨w.heap.size, 0, none⟩ (.slice y.kA y.kn y.kc)).setCell ⟨w.heap.size, 1, none⟩ (.slice y.gA y.gn y.gc)).setCell ⟨w.heap.size, 2, none⟩ (.slice y.iA y.im y.ic)) := Kx.set3 Kx.refl b0 (Nat.zero_le _) (by simp) 0 1 2 _ _ _
      have v0 : Bk (((w1.setCell ⟨w.heap.size, 0, none⟩ (.slice y.kA y.kn y.kc)).setCell ⟨w.heap.size, 1, none⟩ (.slice y.gA y.gn y.gc)).setCell ⟨w.heap.size, 2, none⟩ (.slice y.iA y.im y.ic)) w.heap.size 52 #[.slice y.kA y.kn y.kc, .slice y.gA y.gn y.gc, .slice y.iA y.im y.ic] := by simpa using ((b0.set_ 0 (.slice y.kA y.kn y.kc)).set_ 1 (.slice y.gA y.gn y.gc)).set_ 2 (.slice y.iA y.im y.ic)
      have v1 := b1.far3n (g' := w.heap.size) (by omega) 0 1 2 (.slice y.kA y.kn y.kc) (.slice y.gA y.gn y.gc) (.slice y.iA y.im y.ic)
      have v2 := b2.far3n (g' := w.heap.size) (by omega) 0 1 2 (.slice y.kA y.kn y.kc) (.slice y.gA y.gn y.gc) (.slice y.iA y.im y.ic)
      have hbw : Below w.heap.size w (((w1.setCell ⟨w.heap.size, 0, none⟩ (.slice y.kA y.kn y.kc)).setCell ⟨w.heap.size, 1, none⟩ (.slice y.gA y.gn y.gc)).setCell ⟨w.heap.size, 2, none⟩ (.slice y.iA y.im y.ic)) := below3 (HB0.out.trans (hb1.mono HB0.out.size)) (Nat.le_refl _) _ _ _
      have hyW := hy.out.1.keep hkx (by decide) (by decide) (by decide) (by decide) (by decide)
      obtain ⟨W, hW⟩ : ∃ W, W = (((w1.setCell ⟨w.heap.size, 0, none⟩ (.slice y.kA y.kn y.kc)).setCell ⟨w.heap.size, 1, none⟩ (.slice y.gA y.gn y.gc)).setCell ⟨w.heap.size, 2, none⟩ (.slice y.iA y.im y.ic)) := ⟨_, rfl⟩
      rw [← hW] at v0 v1 v2 hyW hbw ⊢
      have HY : Hid (VW holdK y.p ∧ checkF y.p.ks = 0 ∧ y.p.gens.length ≤ 11) := Lib.hid hy.out.2
      have hlt : w.heap.size + 2 < W.heap.size := v2.lt
      have HV := Lib.hid (And.intro v0 (And.intro v1 v2))
      have HYW := Lib.hid hyW
      have HBW := Lib.hid hbw
      clear hW hbs hkx v0 v1 v2 b0 b1 b2 hyW hbw d0 d1 d2 m0 m1 m2 hy hb1 HWO c0 c1 c2
      have hca : ∀ wx, Below W.heap.size W wx → Calls Try.prog 30 #[.agg #[.slice y.kA y.kn y.kc, .slice y.gA y.gn y.gc, .slice y.iA y.im y.ic], .slice A' n' c'] wx fun e w' => ∃ a : Wd, e = .returned (.agg #[.slice a.kA a.kn a.kc, .slice a.gA a.gn a.gc, .slice a.iA a.im a.ic]) ∧ Hid (WdY w' 0 a) ∧ Below wx.heap.size wx w' ∧ Below W.heap.size W w' := fun wx hb =>
        (HCH.out y wx (HBW.out.trans (hb.mono HBW.out.size)) (HYW.out.below hb) HY.out.1 HY.out.2.1 (by have h : y.gens.length ≤ 11 := HY.out.2.2; omega)).mono fun e w' ⟨a, h1, h2, h3⟩ => ⟨a, h1, Lib.hid h2.out.1, h3, Below.tr hb h3⟩
      have hcb : ∀ wx, Below W.heap.size W wx → Calls Try.prog 30 #[.agg #[.slice y.kA y.kn y.kc, .slice y.gA y.gn y.gc, .slice y.iA y.im y.ic], .slice A2 n2 c2] wx fun e w' => ∃ a : Wd, e = .returned (.agg #[.slice a.kA a.kn a.kc, .slice a.gA a.gn a.gc, .slice a.iA a.im a.ic]) ∧ Hid (WdY w' 0 a) ∧ Below wx.heap.size wx w' ∧ Below W.heap.size W w' := fun wx hb =>
        (HCH2.out y wx (HBW.out.trans (hb.mono HBW.out.size)) (HYW.out.below hb) HY.out.1 HY.out.2.1 (by have h : y.gens.length ≤ 11 := HY.out.2.2; omega)).mono fun e w' ⟨a, h1, h2, h3⟩ => ⟨a, h1, Lib.hid h2.out.1, h3, Below.tr hb h3⟩
      have HCA := Lib.hid hca
      have HCB := Lib.hid hcb
      have HSS : Hid (∀ wx, Below W.heap.size W wx → wx.cell? ⟨w.heap.size, 0, none⟩ = some (.slice y.kA y.kn y.kc) ∧ wx.cell? ⟨w.heap.size, 1, none⟩ = some (.slice y.gA y.gn y.gc) ∧ wx.cell? ⟨w.heap.size, 2, none⟩ = some (.slice y.iA y.im y.ic)) := Lib.hid fun wx hb => by
        have h := HV.out.1.below2 hb
        exact ⟨h.cell 0, h.cell 1, h.cell 2⟩
      clear hca hcb HCH HCH2 HK0 HB0 HMG
      go_region_held3 (fun wx => wx.cell? ⟨w.heap.size, 0, none⟩ = some (.slice y.kA y.kn y.kc) ∧ wx.cell? ⟨w.heap.size, 1, none⟩ = some (.slice y.gA y.gn y.gc) ∧ wx.cell? ⟨w.heap.size, 2, none⟩ = some (.slice y.iA y.im y.ic))
        (first
          | ((with_reducible refine HSS.out _ ?_); (repeat' first | with_reducible exact Below.refl _ _ | with_reducible assumption | with_reducible refine Below.drew ?_ | with_reducible refine Below.al ?_ _); done)
          | (refine And.intro ?_ (And.intro ?_ ?_) <;> (repeat' first | with_reducible assumption | with_reducible refine far_cell3 (by omega) ?_)))
        (first
          | (go_at_call 30
             (with_reducible show Calls Try.prog 30 #[.agg #[.slice y.kA y.kn y.kc, .slice y.gA y.gn y.gc, .slice y.iA y.im y.ic], .slice A' n' c'] _ _)
             (with_reducible refine (HCA.out _ ?hbel).mono ?_)
             case hbel => (repeat' first | with_reducible exact Below.refl _ _ | with_reducible assumption | with_reducible refine Below.drew ?_ | with_reducible refine Below.al ?_ _)
             rintro e w3 ⟨a, rfl, ha3, hb3, hB3⟩)
          | (go_at_call 30
             (with_reducible show Calls Try.prog 30 #[.agg #[.slice y.kA y.kn y.kc, .slice y.gA y.gn y.gc, .slice y.iA y.im y.ic], .slice A2 n2 c2] _ _)
             (with_reducible refine (HCB.out _ ?hbel).mono ?_)
             case hbel => (repeat' first | with_reducible exact Below.refl _ _ | with_reducible assumption | with_reducible refine Below.drew ?_ | with_reducible refine Below.al ?_ _)
             rintro e w5 ⟨b, rfl, hb5a, hb5, hB5⟩
             have hb35 : Below w3.heap.size w3 w5 := by
               refine Below.tr ?_ hb5
               (repeat' first | with_reducible exact Below.refl _ _ | with_reducible assumption | with_reducible refine Below.drew ?_ | with_reducible refine Below.al ?_ _)
             obtain ⟨g0, g1, g2⟩ := HSS.out _ hB5
             have x1 := HV.out.2.1.below2 hB5
             have x2 := HV.out.2.2.below2 hB5
             have n0 : w5.cell? ⟨w.heap.size + 1, 0, none⟩ = some (.slice X0.kA X0.kn X0.kc) := x1.cell 0
             have n1 : w5.cell? ⟨w.heap.size + 1, 1, none⟩ = some (.slice X0.gA X0.gn X0.gc) := x1.cell 1
             have n2 : w5.cell? ⟨w.heap.size + 1, 2, none⟩ = some (.slice X0.iA X0.im X0.ic) := x1.cell 2
             have m0 := x1.frozen 0
             have m1 := x1.frozen 1
             have m2 := x1.frozen 2
             have p0 : w5.cell? ⟨w.heap.size + 1 + 1, 0, none⟩ = some (.slice Y0.kA Y0.kn Y0.kc) := x2.cell 0
             have p1 : w5.cell? ⟨w.heap.size + 1 + 1, 1, none⟩ = some (.slice Y0.gA Y0.gn Y0.gc) := x2.cell 1
             have p2 : w5.cell? ⟨w.heap.size + 1 + 1, 2, none⟩ = some (.slice Y0.iA Y0.im Y0.ic) := x2.cell 2
             have q0 := x2.frozen 0
             have q1 := x2.frozen 1
             have q2 := x2.frozen 2
             have HX5 := Lib.hid (And.intro x1 x2)
             clear x1 x2))
      have x1 := HX5.out.1
      have x2 := HX5.out.2
      have r0 := HV.out.1.below2 hB5
      have z0 := (r0.far3n (g' := w.heap.size + 1) (by omega) 0 1 2 (.slice a.kA a.kn a.kc) (.slice a.gA a.gn a.gc) (.slice a.iA a.im a.ic)).far3n (g' := w.heap.size + 1 + 1) (by omega) 0 1 2 (.slice b.kA b.kn b.kc) (.slice b.gA b.gn b.gc) (.slice b.iA b.im b.ic)
      have z1 := (Bk.set3 x1 (.slice a.kA a.kn a.kc) (.slice a.gA a.gn a.gc) (.slice a.iA a.im a.ic)).far3n (g' := w.heap.size + 1 + 1) (by omega) 0 1 2 (.slice b.kA b.kn b.kc) (.slice b.gA b.gn b.gc) (.slice b.iA b.im b.ic)
      have y2 := x2.far3n (g' := w.heap.size + 1) (by omega) 0 1 2 (.slice a.kA a.kn a.kc) (.slice a.gA a.gn a.gc) (.slice a.iA a.im a.ic)
      have z2 := Bk.set3 y2 (.slice b.kA b.kn b.kc) (.slice b.gA b.gn b.gc) (.slice b.iA b.im b.ic)
      have hkx := (Kx.set3 (B := 0) (F := [52]) Kx.refl x1 (Nat.zero_le _) (by simp) 0 1 2 (.slice a.kA a.kn a.kc) (.slice a.gA a.gn a.gc) (.slice a.iA a.im a.ic)).trans (Kx.set3 Kx.refl y2 (Nat.zero_le _) (by simp) 0 1 2 (.slice b.kA b.kn b.kc) (.slice b.gA b.gn b.gc) (.slice b.iA b.im b.ic))
      have hbf := below3 (below3 (HBW.out.trans (hB5.mono HBW.out.size)) (show w.heap.size ≤ w.heap.size + 1 by omega) (.slice a.kA a.kn a.kc) (.slice a.gA a.gn a.gc) (.slice a.iA a.im a.ic)) (show w.heap.size ≤ w.heap.size + 1 + 1 by omega) (.slice b.kA b.kn b.kc) (.slice b.gA b.gn b.gc) (.slice b.iA b.im b.ic)
      have ya := (ha3.out.below hb35).keep hkx (by decide) (by decide) (by decide) (by decide) (by decide)
      have yb := hb5a.out.keep hkx (by decide) (by decide) (by decide) (by decide) (by decide)
      have yo := (HYW.out.below hB5).keep hkx (by decide) (by decide) (by decide) (by decide) (by decide)
      have HF := Lib.hid (show ∃ O X Y : Wd, Hid (Sk _ w.heap.size O ∧ Sk _ (w.heap.size + 1) X ∧ Sk _ (w.heap.size + 1 + 1) Y) ∧ Hid (Below w.heap.size w _) from ⟨y, a, b, Lib.hid ⟨⟨z0, yo.ok_⟩, ⟨z1, ya.ok_⟩, ⟨z2, yb.ok_⟩⟩, Lib.hid hbf⟩)
      clear x1 x2 r0 z0 z1 y2 z2 hkx hbf ya yb yo HX5 n0 n1 n2 m0 m1 m2 p0 p1 p2 q0 q1 q2 g0 g1 g2
      go_wp2_with fail
      go_meet
      case rel => exact HF.out
    · have hz : ¬ (n : Int) > 0 := by omega
      go_wp2_with fail
      go_meet
      case rel => exact ⟨O0, X0, Y0, HK0, HB0⟩
  case rest =>
    obtain ⟨O, X, Y, HS, HB⟩ := hcut
    have ht := three_any HS.out.1.2 HS.out.2.1.2 HS.out.2.2.2
    obtain ⟨bd, hbd⟩ : ∃ bd, bd = badF O.p X.p Y.p := ⟨_, rfl⟩
    rw [← hbd] at ht
    have HT := Lib.hid ht
    have HBD := Lib.hid hbd
    obtain ⟨o0, o1, o2⟩ := HS.out.1.cs
    obtain ⟨x0, x1, x2⟩ := HS.out.2.1.cs
    obtain ⟨y0, y1, y2⟩ := HS.out.2.2.cs
    clear hbd ht HCH HCH2 HWO HK0 HB0
    go_wp2_with fail
    (with_reducible refine HT.out.mono ?_)
    rintro e w3 ⟨Z, CA, m, mc, rfl, hz1, hz2, hb3⟩
    clear HT o0 o1 o2 x0 x1 x2 y0 y1 y2
    obtain ⟨W3, hW3⟩ : ∃ W3, W3 = w3.alloc (.cells #[.slice Z.kA Z.kn Z.kc, .slice Z.gA Z.gn Z.gc, .slice Z.iA Z.im Z.ic] 52) := ⟨_, rfl⟩
    obtain ⟨bZ, hbZ⟩ : ∃ b, b = w3.heap.size := ⟨_, rfl⟩
    have HZB : Hid (Bk W3 bZ 52 #[.slice Z.kA Z.kn Z.kc, .slice Z.gA Z.gn Z.gc, .slice Z.iA Z.im Z.ic]) := Lib.hid (by rw [hW3, hbZ]; exact Bk.new _ _ _)
    have hbw3 : Below w3.heap.size w3 W3 := by rw [hW3]; exact Below.al (Below.refl _ _) _
    have HZ1 : Hid (bd = 0 → WdY W3 0 Z ∧ Z.p = mergeF O.p X.p Y.p ∧ m = (mergeC O.p X.p Y.p).length ∧ m ≤ mc ∧ mc ≤ 9223372036854775807 ∧ RdY W3 0 73 4 CA m (clCs (mergeC O.p X.p Y.p))) := Lib.hid fun h => by
      obtain ⟨⟨h1, h2⟩, h3, h4, h5, h6⟩ := hz1.out h
      exact ⟨h1.below hbw3, h2, h3, h4, h5, h6.keep (F := []) (Kx.of_below (B := 0) hbw3) (by simp)⟩
    have HZ2 := Lib.hid hz2.out
    have HS3 : Hid (Sk W3 w.heap.size O ∧ Sk W3 (w.heap.size + 1) X ∧ Sk W3 (w.heap.size + 1 + 1) Y) := Lib.hid ⟨(HS.out.1.below hb3).below hbw3, (HS.out.2.1.below hb3).below hbw3, (HS.out.2.2.below hb3).below hbw3⟩
    have HB3 : Hid (Below w.heap.size w W3) := Lib.hid (by have h := HB.out.trans (hb3.mono HB.out.size); rw [hW3]; exact Below.al h _)
    clear hz1 hz2 hb3 hbw3 HS HB
    go_upto_region 6 with fail
    rw [← hW3, ← hbZ]
    clear hW3 hbZ
    obtain ⟨o0, o1, o2⟩ := HS3.out.1.cs
    obtain ⟨x0, x1, x2⟩ := HS3.out.2.1.cs
    obtain ⟨y0, y1, y2⟩ := HS3.out.2.2.cs
    obtain ⟨W4, hW4⟩ : ∃ W4, W4 = W3.alloc (.cells #[.slice O.kA O.kn O.kc, .slice O.gA O.gn O.gc, .slice O.iA O.im O.ic, .slice X.kA X.kn X.kc, .slice X.gA X.gn X.gc, .slice X.iA X.im X.ic, .slice Y.kA Y.kn Y.kc, .slice Y.gA Y.gn Y.gc, .slice Y.iA Y.im Y.ic] 52) := ⟨_, rfl⟩
    have H4 : Hid (Bk W4 W3.heap.size 52 #[.slice O.kA O.kn O.kc, .slice O.gA O.gn O.gc, .slice O.iA O.im O.ic, .slice X.kA X.kn X.kc, .slice X.gA X.gn X.gc, .slice X.iA X.im X.ic, .slice Y.kA Y.kn Y.kc, .slice Y.gA Y.gn Y.gc, .slice Y.iA Y.im Y.ic]) := Lib.hid (by rw [hW4]; exact Bk.new _ _ _)
    have hb34 : Below W3.heap.size W3 W4 := by rw [hW4]; exact Below.al (Below.refl _ _) _
    have HB34 := Lib.hid hb34
    have HS4 : Hid (Sk W4 w.heap.size O ∧ Sk W4 (w.heap.size + 1) X ∧ Sk W4 (w.heap.size + 1 + 1) Y) := Lib.hid ⟨HS3.out.1.below hb34, HS3.out.2.1.below hb34, HS3.out.2.2.below hb34⟩
    clear hb34
    go_wp2_with fail
    rw [← hW4]
    clear hW4 o0 o1 o2 x0 x1 x2 y0 y1 y2 HS3
    go_loopw [16, 47] (fun bv iv wr => ∃ (i : Nat) (x : Int), i ≤ 3 ∧ iv = .int .i64 i ∧ bv = .int .i64 x ∧ Hid (x = bad1 ((badL O.p X.p Y.p).take i)) ∧ Hid (Below W4.heap.size W4 wr)) (fun _ iv _ => 3 - (intOf iv).toNat)
    case atStart => exact ⟨0, 0, by omega, rfl, rfl, Lib.hid rfl, Lib.hid (Below.refl _ _)⟩
    case round =>
      obtain ⟨i, x, hi, rfl, rfl, HX, HW⟩ := hrel
      by_cases hlt : i < 3
      · have hz : (i : Int) < 3 := by omega
        obtain ⟨V, hV, hok, hck⟩ : ∃ V, [O, X, Y][i]? = some V ∧ WdOk W4 W4.heap.size V ∧ (badL O.p X.p Y.p)[i]? = some (wcheckF V.p) := by
          rcases (show i = 0 ∨ i = 1 ∨ i = 2 by omega) with rfl | rfl | rfl
          · exact ⟨O, rfl, HS4.out.1.2, rfl⟩
          · exact ⟨X, rfl, HS4.out.2.1.2, rfl⟩
          · exact ⟨Y, rfl, HS4.out.2.2.2, rfl⟩
        obtain ⟨c0, c1, c2⟩ := bk_wd3 (H4.out.below HW.out H4.out.lt) hV
        have hst := bad1_step hck
        rw [← HX.out] at hst
        have hb2 : Below W4.heap.size W4 (wr.alloc (.cells #[.slice V.kA V.kn V.kc, .slice V.gA V.gn V.gc, .slice V.iA V.im V.ic] 52)) := Below.al HW.out _
        have hcc := wcheck_any (hok.below hb2)
        have HW2 := Lib.hid hb2
        obtain ⟨cv, hcv⟩ : ∃ cv, cv = wcheckF V.p := ⟨_, rfl⟩
        rw [← hcv] at hst hcc
        by_cases hx0 : x = 0
        · subst hx0
          rw [if_pos rfl] at hst
          have HST := Lib.hid hst.symm
          have HCK := Lib.hid hcc
          clear hst hcc hcv hck hok hV hb2 HX HW
          dsimp only [Wd.v] at HCK
          go_wp2_with fail
          (with_reducible refine HCK.out.mono ?_)
          rintro e w5 ⟨rfl, hb5⟩
          have HW5 : Hid (Below W4.heap.size W4 w5) := Lib.hid (Below.tr HW2.out hb5)
          clear hb5 HCK HW2 c0 c1 c2
          go_wp2_with fail
          go_roundw
          case rel => exact ⟨i + 1, cv, by omega, by go_num, rfl, HST, HW5⟩
          case measure => simp [intOf]; omega
        · rw [if_neg hx0] at hst
          have HST := Lib.hid hst.symm
          have t0 : (x == 0) = false := by simpa using hx0
          clear hst hcc hcv hck hok hV hb2 HX HW
          go_wp2_with fail
          clear c0 c1 c2
          go_roundw
          case rel => exact ⟨i + 1, x, by omega, by go_num, rfl, HST, HW2⟩
          case measure => simp [intOf]; omega
      · obtain rfl : i = 3 := by omega
        have HS5 : Hid (Sk wr w.heap.size O ∧ Sk wr (w.heap.size + 1) X ∧ Sk wr (w.heap.size + 1 + 1) Y) := Lib.hid ⟨HS4.out.1.below HW.out, HS4.out.2.1.below HW.out, HS4.out.2.2.below HW.out⟩
        have HB35 := Lib.hid (HB34.out.trans (HW.out.mono HB34.out.size))
        obtain ⟨x0, x1, x2⟩ := HS5.out.2.1.cs
        obtain ⟨y0, y1, y2⟩ := HS5.out.2.2.cs
        obtain ⟨W5, hW5⟩ : ∃ W5, W5 = wr.alloc (.cells #[.slice X.kA X.kn X.kc, .slice X.gA X.gn X.gc, .slice X.iA X.im X.ic, .slice Y.kA Y.kn Y.kc, .slice Y.gA Y.gn Y.gc, .slice Y.iA Y.im Y.ic] 52) := ⟨_, rfl⟩
        have H5 : Hid (Bk W5 wr.heap.size 52 #[.slice X.kA X.kn X.kc, .slice X.gA X.gn X.gc, .slice X.iA X.im X.ic, .slice Y.kA Y.kn Y.kc, .slice Y.gA Y.gn Y.gc, .slice Y.iA Y.im Y.ic]) := Lib.hid (by rw [hW5]; exact Bk.new _ _ _)
        have hbr5 : Below wr.heap.size wr W5 := by rw [hW5]; exact Below.al (Below.refl _ _) _
        have HS6 : Hid (Sk W5 w.heap.size O ∧ Sk W5 (w.heap.size + 1) X ∧ Sk W5 (w.heap.size + 1 + 1) Y) := Lib.hid ⟨HS5.out.1.below hbr5, HS5.out.2.1.below hbr5, HS5.out.2.2.below hbr5⟩
        have HB36 : Hid (Below W3.heap.size W3 W5) := Lib.hid (HB35.out.trans (hbr5.mono HB35.out.size))
        have HX3 : Hid (x = bad1 ((badL O.p X.p Y.p).take (3 + 0))) := Lib.hid HX.out
        clear hbr5 HS4 HS5 HB34 HB35 HX HW H4
        go_wp2_with fail
        rw [← hW5]
        clear hW5 x0 x1 x2 y0 y1 y2
        go_loopw [16, 60] (fun bv iv wr => ∃ (i : Nat) (x : Int), i ≤ 2 ∧ iv = .int .i64 i ∧ bv = .int .i64 x ∧ Hid (x = bad1 ((badL O.p X.p Y.p).take (3 + i))) ∧ Hid (Below W5.heap.size W5 wr)) (fun _ iv _ => 2 - (intOf iv).toNat)
        case atStart => exact ⟨0, x, by omega, rfl, rfl, HX3, Lib.hid (Below.refl _ _)⟩
        case round =>
          clear HX3
          obtain ⟨i, x, hi, rfl, rfl, HX, HW⟩ := hrel
          by_cases hlt : i < 2
          · have hz : (i : Int) < 2 := by omega
            obtain ⟨V, hV, hok, hck⟩ : ∃ V, [X, Y][i]? = some V ∧ WdOk W5 W5.heap.size V ∧ (badL O.p X.p Y.p)[3 + i]? = some (dif O.p V.p) := by
              rcases (show i = 0 ∨ i = 1 by omega) with rfl | rfl
              · exact ⟨X, rfl, HS6.out.2.1.2, rfl⟩
              · exact ⟨Y, rfl, HS6.out.2.2.2, rfl⟩
            obtain ⟨c0, c1, c2⟩ := bk_wd2 (H5.out.below HW.out H5.out.lt) hV
            have hst := bad1_step hck
            rw [← HX.out] at hst
            have hb2 : Below W5.heap.size W5 (wr.alloc (.cells #[.slice V.kA V.kn V.kc, .slice V.gA V.gn V.gc, .slice V.iA V.im V.ic] 52)) := Below.al HW.out _
            have c3 : wr.cell? ⟨w.heap.size, 0, none⟩ = some (.slice O.kA O.kn O.kc) := (HS6.out.1.below HW.out).1.cell 0
            have c4 : (wr.alloc (.cells #[.slice V.kA V.kn V.kc, .slice V.gA V.gn V.gc, .slice V.iA V.im V.ic] 52)).cell? ⟨w.heap.size, 0, none⟩ = some (.slice O.kA O.kn O.kc) := (HS6.out.1.below hb2).1.cell 0
            have hcc := eqKinds34_any (HS6.out.1.2.below hb2).ks (hok.below hb2).ks
            have HW2 := Lib.hid hb2
            by_cases hx0 : x = 0
            · subst hx0
              obtain ⟨d, hd⟩ : ∃ d, d = decide (O.ks.map Kd.p = V.ks.map Kd.p) := ⟨_, rfl⟩
              rw [← hd] at hcc
              rw [if_pos rfl] at hst
              have hdd : dif O.p V.p = if d = true then 0 else 8 := by
                rw [hd]; unfold dif
                by_cases h : O.p.ks = V.p.ks
                · rw [if_pos h, decide_eq_true (show O.ks.map Kd.p = V.ks.map Kd.p from h)]; rfl
                · rw [if_neg h, decide_eq_false (show ¬ O.ks.map Kd.p = V.ks.map Kd.p from h)]; rfl
              rw [hdd] at hst
              have HST : Hid (bad1 ((badL O.p X.p Y.p).take (3 + (i + 1))) = if d = true then 0 else 8) := Lib.hid hst
              have HCK := Lib.hid hcc
              clear hst hcc hck hok hV hb2 HX HW hd hdd
              go_wp2_with fail
              (with_reducible refine HCK.out.mono ?_)
              rintro e w5 ⟨rfl, hb5⟩
              have HW5 : Hid (Below W5.heap.size W5 w5) := Lib.hid (Below.tr HW2.out hb5)
              clear hb5 HCK HW2 c0 c1 c2 c3 c4
              cases d
              · go_wp2_with fail
                go_roundw
                case rel => first | exact ⟨i + 1, 8, by omega, by go_num, rfl, Lib.hid HST.out.symm, HW5⟩ | ((repeat apply Exists.intro); exact ⟨⟨i + 1, 8, by omega, by go_num, rfl, Lib.hid HST.out.symm, HW5⟩, rfl⟩)
                case measure => simp [intOf]; omega
              · go_wp2_with fail
                go_roundw
                case rel => first | exact ⟨i + 1, 0, by omega, by go_num, rfl, Lib.hid HST.out.symm, HW5⟩ | ((repeat apply Exists.intro); exact ⟨⟨i + 1, 0, by omega, by go_num, rfl, Lib.hid HST.out.symm, HW5⟩, rfl⟩)
                case measure => simp [intOf]; omega
            · rw [if_neg hx0] at hst
              have HST : Hid (x = bad1 ((badL O.p X.p Y.p).take (3 + (i + 1)))) := Lib.hid hst.symm
              have t0 : (x == 0) = false := by simpa using hx0
              clear hst hcc hck hok hV hb2 HX HW
              go_wp2_with fail
              clear c0 c1 c2 c3 c4
              go_roundw
              case rel => exact ⟨i + 1, x, by omega, by go_num, rfl, HST, HW2⟩
              case measure => simp [intOf]; omega
          · obtain rfl : i = 2 := by omega
            obtain rfl : x = bd := HX.out.trans HBD.out.symm
            have HS7 : Hid (Sk wr w.heap.size O ∧ Sk wr (w.heap.size + 1) X ∧ Sk wr (w.heap.size + 1 + 1) Y) := Lib.hid ⟨HS6.out.1.below HW.out, HS6.out.2.1.below HW.out, HS6.out.2.2.below HW.out⟩
            have HB37 := Lib.hid (HB36.out.trans (HW.out.mono HB36.out.size))
            clear HS6 HB36 HX HW H5
            go_wp2_with fail
            (with_reducible refine (HMG.out _).mono ?_)
            rintro e w6 ⟨rfl, hb6⟩
            have HS8 : Hid (Sk w6 w.heap.size O ∧ Sk w6 (w.heap.size + 1) X ∧ Sk w6 (w.heap.size + 1 + 1) Y) := Lib.hid ⟨HS7.out.1.below hb6, HS7.out.2.1.below hb6, HS7.out.2.2.below hb6⟩
            have HB38 : Hid (Below W3.heap.size W3 w6) := Lib.hid (HB37.out.trans (hb6.mono HB37.out.size))
            clear hb6 HS7 HB37
            by_cases hx0 : x = 0
            · subst hx0
              obtain ⟨hk1, hk2, hk3, hk4, hk5⟩ := badF_zero HBD.out.symm
              have HMM := Lib.hid (mergedR_any HS8.out.1.2 HS8.out.2.1.2 HS8.out.2.2.2 hk1 hk2 hk3 hk4 hk5)
              obtain ⟨hz1, hz2, hz3, hz4, hz5, hz6⟩ := HZ1.out rfl
              have HZ6 : Hid (St w6 bZ Z) := Lib.hid ⟨HZB.out.below2 HB38.out, hz1.below HB38.out⟩
              have HR6 : Hid (RdY w6 0 73 4 CA m (clCs (mergeC O.p X.p Y.p))) := Lib.hid (hz6.keep (F := []) (Kx.of_below (B := 0) HB38.out) (by simp))
              have HB6 : Hid (Below w.heap.size w w6) := Lib.hid (HB3.out.trans (HB38.out.mono HB3.out.size))
              have HZE := Lib.hid hz2
              have HML := Lib.hid hz3
              have hmm : m ≤ 9223372036854775807 := by omega
              obtain ⟨o0, o1, o2⟩ := HS8.out.1.cs
              obtain ⟨x0, x1, x2⟩ := HS8.out.2.1.cs
              obtain ⟨y0, y1, y2⟩ := HS8.out.2.2.cs
              clear hk1 hk2 hk3 hk4 hk5 hz1 hz2 hz3 hz6 HZ1 HZ2 HZB HB38 HB3 HS8 HMG
              go_wp2_with fail
              (with_reducible refine HMM.out.mono ?_)
              rintro e w7 ⟨Z2, DA, m2, dc, rfl, hq, hm, hb7⟩
              obtain rfl : m2 = m := by rw [hm.out.1, HML.out]
              clear HMM o0 o1 o2 x0 x1 x2 y0 y1 y2
              obtain ⟨W8, hW8⟩ : ∃ W8, W8 = w7.alloc (.cells #[.slice Z2.kA Z2.kn Z2.kc, .slice Z2.gA Z2.gn Z2.gc, .slice Z2.iA Z2.im Z2.ic] 52) := ⟨_, rfl⟩
              obtain ⟨bQ, hbQ⟩ : ∃ b, b = w7.heap.size := ⟨_, rfl⟩
              have HQ8 : Hid (St W8 bQ Z2 ∧ Z2.p = mergeF O.p X.p Y.p) := Lib.hid ⟨by rw [hW8, hbQ]; exact St.new hq.out.1, hq.out.2⟩
              have HZ8 : Hid (St W8 bZ Z) := Lib.hid (by rw [hW8]; exact (HZ6.out.below hb7).alloc _)
              have HB8 : Hid (Below w.heap.size w W8) := Lib.hid (by have h := HB6.out.trans (hb7.mono HB6.out.size); rw [hW8]; exact Below.al h _)
              have HE0 : Hid (RdY W8 0 73 4 CA m2 (clCs (mergeC O.p X.p Y.p)) ∧ RdY W8 0 73 4 DA m2 (clCs (mergeC O.p X.p Y.p))) := Lib.hid ⟨HR6.out.keep (F := []) (by rw [hW8]; exact (Kx.of_below (B := 0) hb7).alloc _) (by simp), hm.out.2.2.2.keep (F := []) (by rw [hW8]; exact (Kx.refl (B := 0)).alloc _) (by simp)⟩
              have HT := Lib.hid (same_st HZ8.out.2 HQ8.out.1.2 (HZE.out.trans HQ8.out.2.symm))
              obtain ⟨o0, o1, o2⟩ := HZ8.out.cs
              obtain ⟨x0, x1, x2⟩ := HQ8.out.1.cs
              clear hq hm hb7 HZ6 HR6 HB6 HZE
              go_upto_region 21 with fail
              rw [← hW8, ← hbQ]
              clear hW8 hbQ
              go_wp2_with fail
              (with_reducible refine HT.out.mono ?_)
              rintro e w9 ⟨rfl, hb9⟩
              have HB9 : Hid (Below w.heap.size w w9) := Lib.hid (HB8.out.trans (hb9.mono HB8.out.size))
              have HE := Lib.hid (equalCl_same CA DA m2 mc dc w9.heap.size (mergeC O.p X.p Y.p) w9 HML.out hmm (HE0.out.1.keep (F := []) (Kx.of_below (B := 0) hb9) (by simp)).rd (HE0.out.2.keep (F := []) (Kx.of_below (B := 0) hb9) (by simp)).rd)
              clear hb9 HE0 HB8 HT o0 o1 o2 x0 x1 x2
              go_wp2_with fail
              (with_reducible refine HE.out.mono ?_)
              rintro e wA ⟨rfl, k7, rfl⟩
              have HBA : Hid (Below w.heap.size w (w9.drewN k7)) := Lib.hid (below_dn HB9.out k7)
              clear HE HB9
              go_wp2_with fail
              go_ret
              exact ⟨rfl, HBA.out⟩
            · have t0 : (x != 0) = true := by simpa using hx0
              obtain ⟨hz1, rfl⟩ := HZ2.out hx0
              have HZ6 := Lib.hid (HZB.out.below2 HB38.out)
              have HB6 : Hid (Below w.heap.size w w6) := Lib.hid (HB3.out.trans (HB38.out.mono HB3.out.size))
              clear HZ1 HZ2 HZB HB38 HB3 HS8
              go_wp2_with fail
              (with_reducible refine (HMG.out _).mono ?_)
              rintro e w7 ⟨rfl, hb7⟩
              have z0 : w7.cell? ⟨bZ, 0, none⟩ = some (.slice Z.kA 0 Z.kc) := by
                have h : w7.cell? ⟨bZ, 0, none⟩ = some (.slice Z.kA Z.kn Z.kc) := (HZ6.out.below2 hb7).cell 0
                rw [hz1] at h
                exact h
              have HB7 : Hid (Below w.heap.size w w7) := Lib.hid (HB6.out.trans (hb7.mono HB6.out.size))
              clear hb7 HZ6 HB6 HMG
              go_wp2_with fail
              go_ret
              exact ⟨ret_b (by simp), HB7.out⟩
end Go.Proofs.Ytnidcmhfbkdioaa
