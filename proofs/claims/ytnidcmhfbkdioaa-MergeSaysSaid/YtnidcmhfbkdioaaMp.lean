/-
  The contract of merger.slot. Conditions: what is read can be read; three valid worlds.
-/
import Derived.Test.YtnidcmhfbkdioaaMo
namespace Go.Proofs.Ytnidcmhfbkdioaa
open Go.RowKit
set_option maxRecDepth 100000

theorem pick_leafG {α : Type} [DecidableEq α] {z : α} {ob xb yb : Bool} {ov xv yv : α} {OO XX YY : Option α} (h1 : OO = if ob = true then some ov else none) (h2 : XX = if xb = true then some xv else none) (h3 : YY = if yb = true then some yv else none)
    (n1 : ob = false → ov = z) (n2 : xb = false → xv = z) (n3 : yb = false → yv = z) {d1 d2 d3 : Bool} (f1 : d1 = decide (xv = yv)) (f2 : d2 = decide (xv = ov)) (f3 : d3 = decide (yv = ov)) :
    ((xb == yb) && d1) = decide (XX = YY) ∧ ((xb == ob) && d2) = decide (XX = OO) ∧ ((yb == ob) && d3) = decide (YY = OO) := by
  subst h1; subst h2; subst h3; subst f1; subst f2; subst f3
  cases ob <;> cases xb <;> cases yb <;> simp_all
theorem pickG_1 {α : Type} [DecidableEq α] {O X Y : α} (h : X = Y) : pick O X Y = (X, false) := by unfold pick; rw [if_pos h]
theorem pickG_2 {α : Type} [DecidableEq α] {O X Y : α} (h : X ≠ Y) (h2 : X = O) : pick O X Y = (Y, false) := by unfold pick; rw [if_neg h, if_pos h2]
theorem pickG_3 {α : Type} [DecidableEq α] {O X Y : α} (h : X ≠ Y) (h2 : X ≠ O) (h3 : Y = O) : pick O X Y = (X, false) := by unfold pick; rw [if_neg h, if_neg h2, if_pos h3]
theorem pickG_4 {α : Type} [DecidableEq α] {O X Y : α} (h : X ≠ Y) (h2 : X ≠ O) (h3 : Y ≠ O) : pick O X Y = (X, true) := by unfold pick; rw [if_neg h, if_neg h2, if_neg h3]
theorem slot_not {K : Nat} {n : Int} {O X Y : Option Iv} (h : ∀ o x y, O = some o → X = some x → Y = some y → ¬ (o.1 = x.1 ∧ o.1 = y.1)) : slotF K O X Y = (pick O X Y).1 ∧ slotC n K O X Y = if (pick O X Y).2 = true then [(0, n, 0, 0)] else [] := by
  cases O <;> cases X <;> cases Y <;> first | exact ⟨rfl, rfl⟩ | skip
  rename_i o x y
  have h2 := h o x y rfl rfl rfl
  constructor
  · show (if _ then _ else _ : Option Iv) = _
    rw [if_neg h2]
  · show (if _ then _ else _ : List Cl) = _
    rw [if_neg h2]
def zeroIt : It := ⟨0, 0, none, 0, 0, []⟩
/-- What a look-up of an entity hands back. -/
structure IpR (w : World) (B : Nat) (it : It) (b : Bool) (O : Option Iv) (l : List It) : Prop where
  opt : O = if b = true then some it.p else none
  nil : b = false → it = zeroIt
  ok : ItOk w B it
  mem : b = true → it ∈ l
theorem ItemP.uni {w : World} {B : Nat} {x : Wd} {k : Int} {e : Ending} (h : ItemP x k e) (hx : WdOk w B x) : ∃ (it : It) (b : Bool), e = .returned (.tuple #[.agg #[.int .i64 it.e, .int .i64 it.g, .slice it.A it.n it.c], .bool b]) ∧ IpR w B it b (findI (x.its.map It.p) k) x.its := by
  rcases h with ⟨it, hm, hk, hf, rfl⟩ | ⟨hf, rfl⟩
  · exact ⟨it, true, rfl, hf, (fun h => by cases h), hx.its.ok it hm, fun _ => hm⟩
  · exact ⟨zeroIt, false, rfl, hf, fun _ => rfl, ⟨⟨Rd.nil_ _, rfl, Nat.le_refl _, (by show (0 : Nat) ≤ _; omega), (fun x hx => by cases hx), hx.its.lo⟩, by decide, by decide⟩, (fun h => by cases h)⟩
theorem mg_push {W w8 : World} {base m B q cc g8 c8 : Nat} {CA : Option Addr} {LL : List Cl} (c : Cl) (how : W.ownsRow base 73 4 (.slice CA q cc) q (clCs LL)) (hbk : Bk W m 198 #[.slice CA q cc]) (hq : q = LL.length) (hown8 : w8.ownsRow base 73 4 (.slice (some ⟨g8, 0, none⟩) (q + 1) c8) (q + 1) (clCs LL ++ clC c))
    (hg8 : (W.alloc (.cells #[.int .i64 c.1, .int .i64 c.2.1, .int .i64 c.2.2.1, .int .i64 c.2.2.2] 73)).grownBy w8 (Value.slice CA q cc).ownBlock) (hB : B ≤ base) (hm : base ≤ m) :
    MgSt (w8.setCell ⟨m, 0, none⟩ (.slice (some ⟨g8, 0, none⟩) (q + 1) c8)) base m (LL ++ [c]) ∧ Kx B [73, 198] W (w8.setCell ⟨m, 0, none⟩ (.slice (some ⟨g8, 0, none⟩) (q + 1) c8)) ∧ ∀ w, Kp base 73 m w W → Kp base 73 m w (w8.setCell ⟨m, 0, none⟩ (.slice (some ⟨g8, 0, none⟩) (q + 1) c8)) := by
  have hne8 : some m ≠ (Value.slice CA q cc).ownBlock := fun e => own_ne how hbk (by decide) e.symm
  have hk8 : Bk w8 m 198 #[.slice CA q cc] := (hbk.alloc _).grown hg8 hne8
  refine ⟨⟨some ⟨g8, 0, none⟩, c8, ?_, ?_⟩, ((((Kx.refl (B := B)).alloc _).grown (how.alloc _) hg8 hB (by simp)).set hk8 (by omega) (by simp) 0 _), fun w h => (((h.alloc _).grown (how.alloc _) hg8).setG 0 _)⟩
  · rw [List.length_append, ← hq]; simpa using hk8.set_ 0 (.slice (some ⟨g8, 0, none⟩) (q + 1) c8)
  · rw [List.length_append, ← hq, clCs_snoc]
    exact own_far hown8 hk8 (by decide) 0 _
/-- The result block filled. -/
theorem slot_exit {w wr : World} {base m B r : Nat} {LL : List Cl} {it : It} (hr : Bk wr r 147 #[.int .i64 0, .int .i64 0, .slice none 0 0]) (hs : MgSt wr base m LL) (hk : Kp base 73 m w wr) (hi : ItY wr B it) (hBr : B ≤ r) (hwr : w.heap.size ≤ r) (u v z : Value) :
    ItY (((wr.setCell ⟨r, 0, none⟩ u).setCell ⟨r, 1, none⟩ v).setCell ⟨r, 2, none⟩ z) B it ∧ MgSt (((wr.setCell ⟨r, 0, none⟩ u).setCell ⟨r, 1, none⟩ v).setCell ⟨r, 2, none⟩ z) base m LL ∧ Kp base 73 m w (((wr.setCell ⟨r, 0, none⟩ u).setCell ⟨r, 1, none⟩ v).setCell ⟨r, 2, none⟩ z) := by
  have hkx := Kx.set3 (B := B) (F := [147]) Kx.refl hr hBr (by simp) 0 1 2 u v z
  exact ⟨hi.keep hkx (by decide) (by decide), hs.kx hkx (by decide) (by decide), ((hk.setNew hwr 0 _).setNew hwr 1 _).setNew hwr 2 _⟩
theorem ItOk.lowB {w w' : World} {B : Nat} {x : It} (h : ItOk w B x) (hb : Below B w w') : ItOk w' B x := ⟨h.cs.below hb, h.wf1, h.wf2⟩
/-- The frame of merger.slot. -/
structure SI (r h1 h2 h3 : Nat) (wr : World) (o x y : It) : Prop where
  r : Bk wr r 147 #[.int .i64 0, .int .i64 0, .slice none 0 0]
  b1 : Bk wr h1 147 #[.int .i64 o.e, .int .i64 o.g, .slice o.A o.n o.c]
  b2 : Bk wr h2 147 #[.int .i64 x.e, .int .i64 x.g, .slice x.A x.n x.c]
  b3 : Bk wr h3 147 #[.int .i64 y.e, .int .i64 y.g, .slice y.A y.n y.c]
theorem SI.kx {r h1 h2 h3 : Nat} {wr w' : World} {o x y : It} {B : Nat} {F : List TypeId} (h : SI r h1 h2 h3 wr o x y) (hq : Kx B F wr w') (hF : (147 : TypeId) ∉ F) : SI r h1 h2 h3 w' o x y := ⟨hq.bk h.r hF, hq.bk h.b1 hF, hq.bk h.b2 hF, hq.bk h.b3 hF⟩

def SlotP (w : World) (base m B K : Nat) (n : Int) (L : List Cl) (FO FX FY : Option Iv) (e : Ending) (w' : World) : Prop :=
  ∃ (it : It) (b : Bool), e = .returned (.tuple #[.agg #[.int .i64 it.e, .int .i64 it.g, .slice it.A it.n it.c], .bool b]) ∧ slotF K FO FX FY = (if b = true then some it.p else none) ∧ ItY w' B it ∧ Fr w.heap.size B it.cms ∧ MgSt w' base m (L ++ slotC n K FO FX FY) ∧ Kp base 73 m w w'

set_option maxHeartbeats 6400000 in
theorem slot_any (base m B K : Nat) (n : Int) (O X Y : Wd) (L : List Cl) (w : World) (hst : MgSt w base m L) (hB : B ≤ base) (hm : base ≤ m) (hbw : base ≤ w.heap.size) (hO : WdOk w B O) (hX : WdOk w B X) (hY : WdOk w B Y) (hK : K ≤ 16) (hL : L.length ≤ 100000000)
    (hlen : ∀ o ∈ O.its, ∀ x ∈ X.its, ∀ y ∈ Y.its, ∀ (k : Nat) u v z, findC (o.cms.map Cm.p) k = some u → findC (x.cms.map Cm.p) k = some v → findC (y.cms.map Cm.p) k = some z → u.length = v.length ∧ z.length = v.length)
    (hsm : ∀ z : It, z ∈ O.its ∨ z ∈ X.its ∨ z ∈ Y.its → ∀ (k : Nat) v, findC (z.cms.map Cm.p) k = some v → v.length ≤ 1024) :
    Calls Try.prog 106 #[.pointer (some ⟨m, 0, none⟩), .int .i64 n, .int .i64 K, O.v, X.v, Y.v] w (SlotP w base m B K n L (findI (O.its.map It.p) n) (findI (X.its.map It.p) n) (findI (Y.its.map It.p) n)) := by
  obtain ⟨iC, hiC, hzC0, hzC1, hzC2⟩ := info_parts T.infoCl
  obtain ⟨FO, hFO⟩ : ∃ F, F = findI (O.its.map It.p) n := ⟨_, rfl⟩
  obtain ⟨FX, hFX⟩ : ∃ F, F = findI (X.its.map It.p) n := ⟨_, rfl⟩
  obtain ⟨FY, hFY⟩ : ∃ F, F = findI (Y.its.map It.p) n := ⟨_, rfl⟩
  rw [← hFO, ← hFX, ← hFY]
  show Calls Try.prog 106 #[.pointer (some ⟨m, 0, none⟩), .int .i64 n, .int .i64 K, .agg #[.slice O.kA O.kn O.kc, .slice O.gA O.gn O.gc, .slice O.iA O.im O.ic], .agg #[.slice X.kA X.kn X.kc, .slice X.gA X.gn X.gc, .slice X.iA X.im X.ic], .agg #[.slice Y.kA Y.kn Y.kc, .slice Y.gA Y.gn Y.gc, .slice Y.iA Y.im Y.ic]] w _
  obtain ⟨W0, hW0⟩ : ∃ W0, W0 = (((w.alloc (.cells #[.slice O.kA O.kn O.kc, .slice O.gA O.gn O.gc, .slice O.iA O.im O.ic] 52)).alloc (.cells #[.slice X.kA X.kn X.kc, .slice X.gA X.gn X.gc, .slice X.iA X.im X.ic] 52)).alloc (.cells #[.slice Y.kA Y.kn Y.kc, .slice Y.gA Y.gn Y.gc, .slice Y.iA Y.im Y.ic] 52)).alloc (.cells #[.int .i64 0, .int .i64 0, .slice none 0 0] 147) := ⟨_, rfl⟩
  have hb0 : Below w.heap.size w W0 := by rw [hW0]; exact Below.al (Below.al (Below.al (Below.al (Below.refl _ _) _) _) _) _
  have k0 : Bk W0 w.heap.size 52 #[.slice O.kA O.kn O.kc, .slice O.gA O.gn O.gc, .slice O.iA O.im O.ic] := by rw [hW0]; exact (((Bk.new w 52 _).alloc _).alloc _).alloc _
  have k1 : Bk W0 (w.heap.size + 1) 52 #[.slice X.kA X.kn X.kc, .slice X.gA X.gn X.gc, .slice X.iA X.im X.ic] := by rw [hW0]; exact ((Bk.two w _ 52 _).alloc _).alloc _
  have k2 : Bk W0 (w.heap.size + 2) 52 #[.slice Y.kA Y.kn Y.kc, .slice Y.gA Y.gn Y.gc, .slice Y.iA Y.im Y.ic] := by rw [hW0]; exact (Bk.three w _ _ 52 _).alloc _
  have k3 : Bk W0 (w.heap.size + 3) 147 #[.int .i64 0, .int .i64 0, .slice none 0 0] := by rw [hW0]; simpa using Bk.new (((w.alloc (.cells #[.slice O.kA O.kn O.kc, .slice O.gA O.gn O.gc, .slice O.iA O.im O.ic] 52)).alloc (.cells #[.slice X.kA X.kn X.kc, .slice X.gA X.gn X.gc, .slice X.iA X.im X.ic] 52)).alloc (.cells #[.slice Y.kA Y.kn Y.kc, .slice Y.gA Y.gn Y.gc, .slice Y.iA Y.im Y.ic] 52)) 147 #[.int .i64 0, .int .i64 0, .slice none 0 0]
  have hBw : B ≤ w.heap.size := Nat.le_trans hB hbw
  have HK0 := Lib.hid k0
  have HK1 := Lib.hid k1
  have HK2 := Lib.hid k2
  have HK3 := Lib.hid k3
  have HB0 := Lib.hid hb0
  have HST := Lib.hid hst
  have HO := Lib.hid hO
  have HX := Lib.hid hX
  have HY := Lib.hid hY
  have HFO := Lib.hid hFO
  have HFX := Lib.hid hFX
  have HFY := Lib.hid hFY
  have HLEN := Lib.hid hlen
  have HSM := Lib.hid hsm
  have HLL := Lib.hid hL
  have c00 : W0.cell? ⟨w.heap.size, 0, none⟩ = some (.slice O.kA O.kn O.kc) := k0.cell 0
  have c01 : W0.cell? ⟨w.heap.size, 1, none⟩ = some (.slice O.gA O.gn O.gc) := k0.cell 1
  have c02 : W0.cell? ⟨w.heap.size, 2, none⟩ = some (.slice O.iA O.im O.ic) := k0.cell 2
  have HI1 : Hid (Calls Try.prog 171 #[.agg #[.slice O.kA O.kn O.kc, .slice O.gA O.gn O.gc, .slice O.iA O.im O.ic], .int .i64 n] W0 fun e w' => ItemP O n e ∧ Below W0.heap.size W0 w') := Lib.hid (item_any O n (hO.below (hb0.mono hBw)))
  clear hst hO hX hY hlen hsm hb0 hFO hFX hFY hL k0 k1 k2 k3
  go_enter Try.func106, Try.ntmps106
  go_wp2_with fail
  rw [← hW0]
  clear hW0

  (with_reducible refine HI1.out.mono ?_)
  rintro e v1 ⟨hp1, hvb1⟩
  obtain ⟨o, ob, rfl, hr1⟩ := hp1.uni HO.out
  rw [← HFO.out] at hr1
  have HR1 := Lib.hid hr1
  have HV1 : Hid (Below w.heap.size w v1) := Lib.hid (HB0.out.trans (hvb1.mono HB0.out.size))
  have HK1v1 := Lib.hid ((HK1.out.below hvb1 HK1.out.lt))
  have HK2v1 := Lib.hid ((HK2.out.below hvb1 HK2.out.lt))
  have HK3v1 := Lib.hid ((HK3.out.below hvb1 HK3.out.lt))
  obtain ⟨w1, hw1⟩ : ∃ w1, w1 = v1.alloc (.cells #[.int .i64 o.e, .int .i64 o.g, .slice o.A o.n o.c] 147) := ⟨_, rfl⟩
  have HX1 : Hid (Below w.heap.size w w1) := Lib.hid (by rw [hw1]; exact Below.al HV1.out _)
  have HQ1x1 : Hid (Bk w1 v1.heap.size 147 #[.int .i64 o.e, .int .i64 o.g, .slice o.A o.n o.c]) := Lib.hid (by rw [hw1]; exact Bk.new _ _ _)
  have HK1x1 := Lib.hid (HK1v1.out.alloc (.cells #[.int .i64 o.e, .int .i64 o.g, .slice o.A o.n o.c] 147))
  rw [← hw1] at HK1x1
  have HK2x1 := Lib.hid (HK2v1.out.alloc (.cells #[.int .i64 o.e, .int .i64 o.g, .slice o.A o.n o.c] 147))
  rw [← hw1] at HK2x1
  have HK3x1 := Lib.hid (HK3v1.out.alloc (.cells #[.int .i64 o.e, .int .i64 o.g, .slice o.A o.n o.c] 147))
  rw [← hw1] at HK3x1
  clear hp1 hvb1 hr1 HI1
  have c10 : w1.cell? ⟨w.heap.size + 1, 0, none⟩ = some (.slice X.kA X.kn X.kc) := HK1x1.out.cell 0
  have c11 : w1.cell? ⟨w.heap.size + 1, 1, none⟩ = some (.slice X.gA X.gn X.gc) := HK1x1.out.cell 1
  have c12 : w1.cell? ⟨w.heap.size + 1, 2, none⟩ = some (.slice X.iA X.im X.ic) := HK1x1.out.cell 2
  have HI2 : Hid (Calls Try.prog 171 #[.agg #[.slice X.kA X.kn X.kc, .slice X.gA X.gn X.gc, .slice X.iA X.im X.ic], .int .i64 n] w1 fun e w' => ItemP X n e ∧ Below w1.heap.size w1 w') := Lib.hid (item_any X n (HX.out.below (HX1.out.mono hBw)))
  rw [hw1] at c10 c11 c12
  go_wp2_with fail
  rw [← hw1]
  clear hw1 c10 c11 c12
  (with_reducible refine HI2.out.mono ?_)
  rintro e v2 ⟨hp2, hvb2⟩
  obtain ⟨x, xb, rfl, hr2⟩ := hp2.uni HX.out
  rw [← HFX.out] at hr2
  have HR2 := Lib.hid hr2
  have HV2 : Hid (Below w.heap.size w v2) := Lib.hid (HX1.out.trans (hvb2.mono HX1.out.size))
  have HK2v2 := Lib.hid ((HK2x1.out.below hvb2 HK2x1.out.lt))
  have HK3v2 := Lib.hid ((HK3x1.out.below hvb2 HK3x1.out.lt))
  have HQ1v2 := Lib.hid ((HQ1x1.out.below hvb2 HQ1x1.out.lt))
  obtain ⟨w2, hw2⟩ : ∃ w2, w2 = v2.alloc (.cells #[.int .i64 x.e, .int .i64 x.g, .slice x.A x.n x.c] 147) := ⟨_, rfl⟩
  have HX2 : Hid (Below w.heap.size w w2) := Lib.hid (by rw [hw2]; exact Below.al HV2.out _)
  have HQ2x2 : Hid (Bk w2 v2.heap.size 147 #[.int .i64 x.e, .int .i64 x.g, .slice x.A x.n x.c]) := Lib.hid (by rw [hw2]; exact Bk.new _ _ _)
  have HK2x2 := Lib.hid (HK2v2.out.alloc (.cells #[.int .i64 x.e, .int .i64 x.g, .slice x.A x.n x.c] 147))
  rw [← hw2] at HK2x2
  have HK3x2 := Lib.hid (HK3v2.out.alloc (.cells #[.int .i64 x.e, .int .i64 x.g, .slice x.A x.n x.c] 147))
  rw [← hw2] at HK3x2
  have HQ1x2 := Lib.hid (HQ1v2.out.alloc (.cells #[.int .i64 x.e, .int .i64 x.g, .slice x.A x.n x.c] 147))
  rw [← hw2] at HQ1x2
  clear hp2 hvb2 hr2 HI2
  have c20 : w2.cell? ⟨w.heap.size + 2, 0, none⟩ = some (.slice Y.kA Y.kn Y.kc) := HK2x2.out.cell 0
  have c21 : w2.cell? ⟨w.heap.size + 2, 1, none⟩ = some (.slice Y.gA Y.gn Y.gc) := HK2x2.out.cell 1
  have c22 : w2.cell? ⟨w.heap.size + 2, 2, none⟩ = some (.slice Y.iA Y.im Y.ic) := HK2x2.out.cell 2
  have HI3 : Hid (Calls Try.prog 171 #[.agg #[.slice Y.kA Y.kn Y.kc, .slice Y.gA Y.gn Y.gc, .slice Y.iA Y.im Y.ic], .int .i64 n] w2 fun e w' => ItemP Y n e ∧ Below w2.heap.size w2 w') := Lib.hid (item_any Y n (HY.out.below (HX2.out.mono hBw)))
  rw [hw2] at c20 c21 c22
  go_wp2_with fail
  rw [← hw2]
  clear hw2 c20 c21 c22
  (with_reducible refine HI3.out.mono ?_)
  rintro e v3 ⟨hp3, hvb3⟩
  obtain ⟨y, yb, rfl, hr3⟩ := hp3.uni HY.out
  rw [← HFY.out] at hr3
  have HR3 := Lib.hid hr3
  have HV3 : Hid (Below w.heap.size w v3) := Lib.hid (HX2.out.trans (hvb3.mono HX2.out.size))
  have HK3v3 := Lib.hid ((HK3x2.out.below hvb3 HK3x2.out.lt))
  have HQ1v3 := Lib.hid ((HQ1x2.out.below hvb3 HQ1x2.out.lt))
  have HQ2v3 := Lib.hid ((HQ2x2.out.below hvb3 HQ2x2.out.lt))
  obtain ⟨w3, hw3⟩ : ∃ w3, w3 = v3.alloc (.cells #[.int .i64 y.e, .int .i64 y.g, .slice y.A y.n y.c] 147) := ⟨_, rfl⟩
  have HX3 : Hid (Below w.heap.size w w3) := Lib.hid (by rw [hw3]; exact Below.al HV3.out _)
  have HQ3x3 : Hid (Bk w3 v3.heap.size 147 #[.int .i64 y.e, .int .i64 y.g, .slice y.A y.n y.c]) := Lib.hid (by rw [hw3]; exact Bk.new _ _ _)
  have HK3x3 := Lib.hid (HK3v3.out.alloc (.cells #[.int .i64 y.e, .int .i64 y.g, .slice y.A y.n y.c] 147))
  rw [← hw3] at HK3x3
  have HQ1x3 := Lib.hid (HQ1v3.out.alloc (.cells #[.int .i64 y.e, .int .i64 y.g, .slice y.A y.n y.c] 147))
  rw [← hw3] at HQ1x3
  have HQ2x3 := Lib.hid (HQ2v3.out.alloc (.cells #[.int .i64 y.e, .int .i64 y.g, .slice y.A y.n y.c] 147))
  rw [← hw3] at HQ2x3
  clear hp3 hvb3 hr3 HI3
  have HSI : Hid (SI (w.heap.size + 3) v1.heap.size v2.heap.size v3.heap.size w3 o x y) := Lib.hid ⟨HK3x3.out, HQ1x3.out, HQ2x3.out, HQ3x3.out⟩
  have HS3 : Hid (MgSt w3 base m L) := Lib.hid (HST.out.below HX3.out)
  have HE12 := Lib.hid (fun wx (hb : Below B w wx) => sameItem_any (wx := wx) x y (HR2.out.ok.lowB hb) (HR3.out.ok.lowB hb) (Nat.le_trans hBw hb.size) (Nat.le_trans hBw hb.size))
  have HE13 := Lib.hid (fun wx (hb : Below B w wx) => sameItem_any (wx := wx) x o (HR2.out.ok.lowB hb) (HR1.out.ok.lowB hb) (Nat.le_trans hBw hb.size) (Nat.le_trans hBw hb.size))
  have HE23 := Lib.hid (fun wx (hb : Below B w wx) => sameItem_any (wx := wx) y o (HR3.out.ok.lowB hb) (HR1.out.ok.lowB hb) (Nat.le_trans hBw hb.size) (Nat.le_trans hBw hb.size))
  have E1 := eq128 o.e o.g x.e x.g
  have E2 := eq128 o.e o.g y.e y.g
  obtain ⟨p1, hp1⟩ : ∃ p, p = decide (o.e = x.e ∧ o.g = x.g) := ⟨_, rfl⟩
  obtain ⟨p2, hp2⟩ : ∃ p, p = decide (o.e = y.e ∧ o.g = y.g) := ⟨_, rfl⟩
  rw [← hp1] at E1
  rw [← hp2] at E2
  obtain ⟨d1, hd1⟩ : ∃ d, d = decide (x.p = y.p) := ⟨_, rfl⟩
  obtain ⟨d2, hd2⟩ : ∃ d, d = decide (x.p = o.p) := ⟨_, rfl⟩
  obtain ⟨d3, hd3⟩ : ∃ d, d = decide (y.p = o.p) := ⟨_, rfl⟩
  rw [← hd1] at HE12
  rw [← hd2] at HE13
  rw [← hd3] at HE23
  have HPL := Lib.hid (pick_leafG (z := zeroIt.p) HR1.out.opt HR2.out.opt HR3.out.opt (fun h => by rw [HR1.out.nil h]) (fun h => by rw [HR2.out.nil h]) (fun h => by rw [HR3.out.nil h]) hd1 hd2 hd3)
  have HP12 := Lib.hid (And.intro hp1 hp2)
  have HDD := Lib.hid (And.intro hd1 (And.intro hd2 hd3))
  have HXW : Hid (Below B w w3) := Lib.hid (HX3.out.mono hBw)
  have HKP : Hid (Kp base 73 m w w3) := Lib.hid (Kp.of_below HX3.out (Nat.le_refl _))
  have s00 : w3.cell? ⟨v1.heap.size, 0, none⟩ = some (.int .i64 o.e) := HSI.out.b1.cell 0
  have s01 : w3.cell? ⟨v1.heap.size, 1, none⟩ = some (.int .i64 o.g) := HSI.out.b1.cell 1
  have s02 : w3.cell? ⟨v1.heap.size, 2, none⟩ = some (.slice o.A o.n o.c) := HSI.out.b1.cell 2
  have s10 : w3.cell? ⟨v2.heap.size, 0, none⟩ = some (.int .i64 x.e) := HSI.out.b2.cell 0
  have s11 : w3.cell? ⟨v2.heap.size, 1, none⟩ = some (.int .i64 x.g) := HSI.out.b2.cell 1
  have s12 : w3.cell? ⟨v2.heap.size, 2, none⟩ = some (.slice x.A x.n x.c) := HSI.out.b2.cell 2
  have s20 : w3.cell? ⟨v3.heap.size, 0, none⟩ = some (.int .i64 y.e) := HSI.out.b3.cell 0
  have s21 : w3.cell? ⟨v3.heap.size, 1, none⟩ = some (.int .i64 y.g) := HSI.out.b3.cell 1
  have s22 : w3.cell? ⟨v3.heap.size, 2, none⟩ = some (.slice y.A y.n y.c) := HSI.out.b3.cell 2
  have hrw : w.heap.size ≤ w.heap.size + 3 := by omega
  have hrB : B ≤ w.heap.size + 3 := by omega
  rw [hw3] at s00 s01 s02 s10 s11 s12 s20 s21 s22
  clear hd1 hd2 hd3 hp1 hp2 HK0 HK1 HK2 HK3 HX3 HX2 HX1 HV1 HV2 HV3 HB0

  have HBw3 := HXW
  have HX3s : w.heap.size ≤ w3.heap.size := HXW.out.size
  have HSIw3 := HSI
  have HSw3 := HS3
  have HPw3 := HKP
  cases ob
  · cases xb
    · cases yb
      · go_wp2_with fail
        rw [← hw3]
        (with_reducible refine (HE12.out w3 HBw3.out).mono ?_)
        rintro e t1 ⟨rfl, hj1⟩
        have HBt1 : Hid (Below B w t1) := Lib.hid (HBw3.out.trans (hj1.mono (Nat.le_trans hBw HBw3.out.size)))
        have HSIt1 : Hid (SI (w.heap.size + 3) v1.heap.size v2.heap.size v3.heap.size t1 o x y) := Lib.hid (HSIw3.out.kx (F := []) (Kx.of_below (B := B) hj1) (by simp))
        have HSt1 : Hid (MgSt t1 base m L) := Lib.hid (HSw3.out.below hj1)
        have HPt1 : Hid (Kp base 73 m w t1) := Lib.hid (HPw3.out.trans (Kp.of_below hj1 (Nat.le_refl _)))
        clear hj1
        have hdt : d1 = true := by rw [HDD.out.1, HR2.out.nil rfl, HR3.out.nil rfl]; simp
        subst hdt
        have z00 : t1.cell? ⟨v1.heap.size, 0, none⟩ = some (.int .i64 o.e) := HSIt1.out.b1.cell 0
        have z01 : t1.cell? ⟨v1.heap.size, 1, none⟩ = some (.int .i64 o.g) := HSIt1.out.b1.cell 1
        have z02 : t1.cell? ⟨v1.heap.size, 2, none⟩ = some (.slice o.A o.n o.c) := HSIt1.out.b1.cell 2
        have z10 : t1.cell? ⟨v2.heap.size, 0, none⟩ = some (.int .i64 x.e) := HSIt1.out.b2.cell 0
        have z11 : t1.cell? ⟨v2.heap.size, 1, none⟩ = some (.int .i64 x.g) := HSIt1.out.b2.cell 1
        have z12 : t1.cell? ⟨v2.heap.size, 2, none⟩ = some (.slice x.A x.n x.c) := HSIt1.out.b2.cell 2
        have z20 : t1.cell? ⟨v3.heap.size, 0, none⟩ = some (.int .i64 y.e) := HSIt1.out.b3.cell 0
        have z21 : t1.cell? ⟨v3.heap.size, 1, none⟩ = some (.int .i64 y.g) := HSIt1.out.b3.cell 1
        have z22 : t1.cell? ⟨v3.heap.size, 2, none⟩ = some (.slice y.A y.n y.c) := HSIt1.out.b3.cell 2
        have n0 : t1.cell? ⟨w.heap.size + 3, 0, none⟩ = some (.int .i64 0) := HSIt1.out.r.cell 0
        have n1 : t1.cell? ⟨w.heap.size + 3, 1, none⟩ = some (.int .i64 0) := HSIt1.out.r.cell 1
        have n2 : t1.cell? ⟨w.heap.size + 3, 2, none⟩ = some (.slice none 0 0) := HSIt1.out.r.cell 2
        have m0 := HSIt1.out.r.frozen 0
        have m1 := HSIt1.out.r.frozen 1
        have m2 := HSIt1.out.r.frozen 2
        go_wp2_with fail
        have hsn := slot_not (K := K) (n := n) (O := FO) (X := FX) (Y := FY) (fun a b c h1 h2 h3 => by rw [HR1.out.opt] at h1; cases h1)
        have hpk : pick FO FX FY = _ := pickG_1 (of_decide_eq_true HPL.out.1.symm)
        (try simp only [Exit.inBlock, Exit.then])
        have hex := slot_exit HSIt1.out.r HSt1.out HPt1.out (ItY.of_ok (HR2.out.ok.lowB HBt1.out) (Nat.le_refl _)) hrB hrw (.int .i64 x.e) (.int .i64 x.g) (.slice x.A x.n x.c)
        refine bodyPost_ret (v := .tuple #[.agg #[.int .i64 x.e, .int .i64 x.g, .slice x.A x.n x.c], .bool false]) ?_ rfl ⟨x, false, rfl, (by rw [hsn.1, hpk]; exact HR2.out.opt), hex.1, Fr.of_ok HR2.out.ok, ?_, hex.2.2⟩
        · rw [results_cell_tmp rfl]
          go_simp
        · rw [hsn.2, hpk]; simp only [Bool.false_eq_true, if_false, List.append_nil]; exact hex.2.1
      · go_wp2_with fail
        rw [← hw3]
        (with_reducible refine (HE13.out w3 HBw3.out).mono ?_)
        rintro e t1 ⟨rfl, hj1⟩
        have HBt1 : Hid (Below B w t1) := Lib.hid (HBw3.out.trans (hj1.mono (Nat.le_trans hBw HBw3.out.size)))
        have HSIt1 : Hid (SI (w.heap.size + 3) v1.heap.size v2.heap.size v3.heap.size t1 o x y) := Lib.hid (HSIw3.out.kx (F := []) (Kx.of_below (B := B) hj1) (by simp))
        have HSt1 : Hid (MgSt t1 base m L) := Lib.hid (HSw3.out.below hj1)
        have HPt1 : Hid (Kp base 73 m w t1) := Lib.hid (HPw3.out.trans (Kp.of_below hj1 (Nat.le_refl _)))
        clear hj1
        have hdt : d2 = true := by rw [HDD.out.2.1, HR2.out.nil rfl, HR1.out.nil rfl]; simp
        subst hdt
        have z00 : t1.cell? ⟨v1.heap.size, 0, none⟩ = some (.int .i64 o.e) := HSIt1.out.b1.cell 0
        have z01 : t1.cell? ⟨v1.heap.size, 1, none⟩ = some (.int .i64 o.g) := HSIt1.out.b1.cell 1
        have z02 : t1.cell? ⟨v1.heap.size, 2, none⟩ = some (.slice o.A o.n o.c) := HSIt1.out.b1.cell 2
        have z10 : t1.cell? ⟨v2.heap.size, 0, none⟩ = some (.int .i64 x.e) := HSIt1.out.b2.cell 0
        have z11 : t1.cell? ⟨v2.heap.size, 1, none⟩ = some (.int .i64 x.g) := HSIt1.out.b2.cell 1
        have z12 : t1.cell? ⟨v2.heap.size, 2, none⟩ = some (.slice x.A x.n x.c) := HSIt1.out.b2.cell 2
        have z20 : t1.cell? ⟨v3.heap.size, 0, none⟩ = some (.int .i64 y.e) := HSIt1.out.b3.cell 0
        have z21 : t1.cell? ⟨v3.heap.size, 1, none⟩ = some (.int .i64 y.g) := HSIt1.out.b3.cell 1
        have z22 : t1.cell? ⟨v3.heap.size, 2, none⟩ = some (.slice y.A y.n y.c) := HSIt1.out.b3.cell 2
        have n0 : t1.cell? ⟨w.heap.size + 3, 0, none⟩ = some (.int .i64 0) := HSIt1.out.r.cell 0
        have n1 : t1.cell? ⟨w.heap.size + 3, 1, none⟩ = some (.int .i64 0) := HSIt1.out.r.cell 1
        have n2 : t1.cell? ⟨w.heap.size + 3, 2, none⟩ = some (.slice none 0 0) := HSIt1.out.r.cell 2
        have m0 := HSIt1.out.r.frozen 0
        have m1 := HSIt1.out.r.frozen 1
        have m2 := HSIt1.out.r.frozen 2
        go_wp2_with fail
        have hsn := slot_not (K := K) (n := n) (O := FO) (X := FX) (Y := FY) (fun a b c h1 h2 h3 => by rw [HR1.out.opt] at h1; cases h1)
        have hpk : pick FO FX FY = _ := pickG_2 (of_decide_eq_false HPL.out.1.symm) (of_decide_eq_true HPL.out.2.1.symm)
        (try simp only [Exit.inBlock, Exit.then])
        have hex := slot_exit HSIt1.out.r HSt1.out HPt1.out (ItY.of_ok (HR3.out.ok.lowB HBt1.out) (Nat.le_refl _)) hrB hrw (.int .i64 y.e) (.int .i64 y.g) (.slice y.A y.n y.c)
        refine bodyPost_ret (v := .tuple #[.agg #[.int .i64 y.e, .int .i64 y.g, .slice y.A y.n y.c], .bool true]) ?_ rfl ⟨y, true, rfl, (by rw [hsn.1, hpk]; exact HR3.out.opt), hex.1, Fr.of_ok HR3.out.ok, ?_, hex.2.2⟩
        · rw [results_cell_tmp rfl]
          go_simp
        · rw [hsn.2, hpk]; simp only [Bool.false_eq_true, if_false, List.append_nil]; exact hex.2.1
    · cases yb
      · go_wp2_with fail
        rw [← hw3]
        (with_reducible refine (HE23.out w3 HBw3.out).mono ?_)
        rintro e t1 ⟨rfl, hj1⟩
        have HBt1 : Hid (Below B w t1) := Lib.hid (HBw3.out.trans (hj1.mono (Nat.le_trans hBw HBw3.out.size)))
        have HSIt1 : Hid (SI (w.heap.size + 3) v1.heap.size v2.heap.size v3.heap.size t1 o x y) := Lib.hid (HSIw3.out.kx (F := []) (Kx.of_below (B := B) hj1) (by simp))
        have HSt1 : Hid (MgSt t1 base m L) := Lib.hid (HSw3.out.below hj1)
        have HPt1 : Hid (Kp base 73 m w t1) := Lib.hid (HPw3.out.trans (Kp.of_below hj1 (Nat.le_refl _)))
        clear hj1
        have hdt : d3 = true := by rw [HDD.out.2.2, HR3.out.nil rfl, HR1.out.nil rfl]; simp
        subst hdt
        have z00 : t1.cell? ⟨v1.heap.size, 0, none⟩ = some (.int .i64 o.e) := HSIt1.out.b1.cell 0
        have z01 : t1.cell? ⟨v1.heap.size, 1, none⟩ = some (.int .i64 o.g) := HSIt1.out.b1.cell 1
        have z02 : t1.cell? ⟨v1.heap.size, 2, none⟩ = some (.slice o.A o.n o.c) := HSIt1.out.b1.cell 2
        have z10 : t1.cell? ⟨v2.heap.size, 0, none⟩ = some (.int .i64 x.e) := HSIt1.out.b2.cell 0
        have z11 : t1.cell? ⟨v2.heap.size, 1, none⟩ = some (.int .i64 x.g) := HSIt1.out.b2.cell 1
        have z12 : t1.cell? ⟨v2.heap.size, 2, none⟩ = some (.slice x.A x.n x.c) := HSIt1.out.b2.cell 2
        have z20 : t1.cell? ⟨v3.heap.size, 0, none⟩ = some (.int .i64 y.e) := HSIt1.out.b3.cell 0
        have z21 : t1.cell? ⟨v3.heap.size, 1, none⟩ = some (.int .i64 y.g) := HSIt1.out.b3.cell 1
        have z22 : t1.cell? ⟨v3.heap.size, 2, none⟩ = some (.slice y.A y.n y.c) := HSIt1.out.b3.cell 2
        have n0 : t1.cell? ⟨w.heap.size + 3, 0, none⟩ = some (.int .i64 0) := HSIt1.out.r.cell 0
        have n1 : t1.cell? ⟨w.heap.size + 3, 1, none⟩ = some (.int .i64 0) := HSIt1.out.r.cell 1
        have n2 : t1.cell? ⟨w.heap.size + 3, 2, none⟩ = some (.slice none 0 0) := HSIt1.out.r.cell 2
        have m0 := HSIt1.out.r.frozen 0
        have m1 := HSIt1.out.r.frozen 1
        have m2 := HSIt1.out.r.frozen 2
        go_wp2_with fail
        have hsn := slot_not (K := K) (n := n) (O := FO) (X := FX) (Y := FY) (fun a b c h1 h2 h3 => by rw [HR1.out.opt] at h1; cases h1)
        have hpk : pick FO FX FY = _ := pickG_3 (of_decide_eq_false HPL.out.1.symm) (of_decide_eq_false HPL.out.2.1.symm) (of_decide_eq_true HPL.out.2.2.symm)
        (try simp only [Exit.inBlock, Exit.then])
        have hex := slot_exit HSIt1.out.r HSt1.out HPt1.out (ItY.of_ok (HR2.out.ok.lowB HBt1.out) (Nat.le_refl _)) hrB hrw (.int .i64 x.e) (.int .i64 x.g) (.slice x.A x.n x.c)
        refine bodyPost_ret (v := .tuple #[.agg #[.int .i64 x.e, .int .i64 x.g, .slice x.A x.n x.c], .bool true]) ?_ rfl ⟨x, true, rfl, (by rw [hsn.1, hpk]; exact HR2.out.opt), hex.1, Fr.of_ok HR2.out.ok, ?_, hex.2.2⟩
        · rw [results_cell_tmp rfl]
          go_simp
        · rw [hsn.2, hpk]; simp only [Bool.false_eq_true, if_false, List.append_nil]; exact hex.2.1
      · go_wp2_with fail
        rw [← hw3]
        (with_reducible refine (HE12.out w3 HBw3.out).mono ?_)
        rintro e t1 ⟨rfl, hj1⟩
        have HBt1 : Hid (Below B w t1) := Lib.hid (HBw3.out.trans (hj1.mono (Nat.le_trans hBw HBw3.out.size)))
        have HSIt1 : Hid (SI (w.heap.size + 3) v1.heap.size v2.heap.size v3.heap.size t1 o x y) := Lib.hid (HSIw3.out.kx (F := []) (Kx.of_below (B := B) hj1) (by simp))
        have HSt1 : Hid (MgSt t1 base m L) := Lib.hid (HSw3.out.below hj1)
        have HPt1 : Hid (Kp base 73 m w t1) := Lib.hid (HPw3.out.trans (Kp.of_below hj1 (Nat.le_refl _)))
        clear hj1
        cases d1
        · obtain ⟨CA, cc, hbk, how⟩ := HSt1.out.ex
          obtain ⟨q, hq⟩ : ∃ q, q = L.length := ⟨_, rfl⟩
          rw [← hq] at hbk how
          have c4 : t1.cell? ⟨m, 0, none⟩ = some (.slice CA q cc) := hbk.cell 0
          have HBK := Lib.hid hbk
          have HOW := Lib.hid how
          have hq9 : q + 1 ≤ 100000001 := by have := HLL.out; omega
          have hws : base ≤ t1.heap.size := Nat.le_trans hbw HBt1.out.size
          have HQ := Lib.hid hq
          clear hbk how hq
          have z00 : t1.cell? ⟨v1.heap.size, 0, none⟩ = some (.int .i64 o.e) := HSIt1.out.b1.cell 0
          have z01 : t1.cell? ⟨v1.heap.size, 1, none⟩ = some (.int .i64 o.g) := HSIt1.out.b1.cell 1
          have z02 : t1.cell? ⟨v1.heap.size, 2, none⟩ = some (.slice o.A o.n o.c) := HSIt1.out.b1.cell 2
          have z10 : t1.cell? ⟨v2.heap.size, 0, none⟩ = some (.int .i64 x.e) := HSIt1.out.b2.cell 0
          have z11 : t1.cell? ⟨v2.heap.size, 1, none⟩ = some (.int .i64 x.g) := HSIt1.out.b2.cell 1
          have z12 : t1.cell? ⟨v2.heap.size, 2, none⟩ = some (.slice x.A x.n x.c) := HSIt1.out.b2.cell 2
          have z20 : t1.cell? ⟨v3.heap.size, 0, none⟩ = some (.int .i64 y.e) := HSIt1.out.b3.cell 0
          have z21 : t1.cell? ⟨v3.heap.size, 1, none⟩ = some (.int .i64 y.g) := HSIt1.out.b3.cell 1
          have z22 : t1.cell? ⟨v3.heap.size, 2, none⟩ = some (.slice y.A y.n y.c) := HSIt1.out.b3.cell 2
          go_wp2_with
            (at_builtin
             go_must (refine wpList_append_one _ rfl (.tmp 103) (.tmp 106) _ rfl base 73 iC (.agg #[.int .i64 0, .int .i64 0, .int .i64 0, .int .i64 0]) 4 32 Try.underlying55 hiC hzC0 hzC1 hzC2 rfl (by decide) (.slice CA q cc) q (clCs L) rfl (HOW.out.alloc _) t1.heap.size 1 73 #[.int .i64 0, .int .i64 n, .int .i64 0, .int .i64 0] rfl (Bk.new _ _ _) rfl ?c1 (q + 1) rfl ?c2 ?c3 ?c4 ?_)
             case c1 => simp [Value.oneCell']
             case c2 => unfold maxLen; omega
             case c3 => omega
             case c4 => (simp; omega)
             intro g8 c8 w8 hown8 hg8 hat8
             have hne8 : some m ≠ (Value.slice CA q cc).ownBlock := fun e => own_ne HOW.out HBK.out (by decide) e.symm
             have hk8 : Bk w8 m 198 #[.slice CA q cc] := (HBK.out.alloc _).grown hg8 hne8
             have c81 : w8.cell? ⟨m, 0, none⟩ = some (.slice CA q cc) := hk8.cell 0
             have f81 := hk8.frozen 0
             obtain ⟨W9, hW9⟩ : ∃ W9, W9 = w8.setCell ⟨m, 0, none⟩ (.slice (some ⟨g8, 0, none⟩) (q + 1) c8) := ⟨_, rfl⟩
             have hmp := mg_push (B := B) ((0, n, 0, 0) : Cl) HOW.out HBK.out HQ.out hown8 hg8 hB hm
             rw [← hW9] at hmp
             have HM9 := Lib.hid hmp.1
             have HSIW9 : Hid (SI (w.heap.size + 3) v1.heap.size v2.heap.size v3.heap.size W9 o x y) := Lib.hid (HSIt1.out.kx hmp.2.1 (by decide))
             have HPW9 := Lib.hid (hmp.2.2 w HPt1.out)
             have HBW9 : Hid (Below B w W9) := Lib.hid (HPW9.out.lowB hB hm hBw)
             have t10 : W9.cell? ⟨v2.heap.size, 0, none⟩ = some (.int .i64 x.e) := HSIW9.out.b2.cell 0
             have t11 : W9.cell? ⟨v2.heap.size, 1, none⟩ = some (.int .i64 x.g) := HSIW9.out.b2.cell 1
             have t12 : W9.cell? ⟨v2.heap.size, 2, none⟩ = some (.slice x.A x.n x.c) := HSIW9.out.b2.cell 2
             have n0 : W9.cell? ⟨w.heap.size + 3, 0, none⟩ = some (.int .i64 0) := HSIW9.out.r.cell 0
             have n1 : W9.cell? ⟨w.heap.size + 3, 1, none⟩ = some (.int .i64 0) := HSIW9.out.r.cell 1
             have n2 : W9.cell? ⟨w.heap.size + 3, 2, none⟩ = some (.slice none 0 0) := HSIW9.out.r.cell 2
             have m0 := HSIW9.out.r.frozen 0
             have m1 := HSIW9.out.r.frozen 1
             have m2 := HSIW9.out.r.frozen 2
             rw [hW9] at t10 t11 t12 n0 n1 n2 m0 m1 m2
             clear hne8 hk8 hmp hown8 hg8 hat8)
          have hsn := slot_not (K := K) (n := n) (O := FO) (X := FX) (Y := FY) (fun a b c h1 h2 h3 => by rw [HR1.out.opt] at h1; cases h1)
          have hpk : pick FO FX FY = _ := pickG_4 (of_decide_eq_false HPL.out.1.symm) (of_decide_eq_false HPL.out.2.1.symm) (of_decide_eq_false HPL.out.2.2.symm)
          rw [← hW9]
          (try simp only [Exit.inBlock, Exit.then])
          have hex := slot_exit HSIW9.out.r HM9.out HPW9.out (ItY.of_ok (HR2.out.ok.lowB HBW9.out) (Nat.le_refl _)) hrB hrw (.int .i64 x.e) (.int .i64 x.g) (.slice x.A x.n x.c)
          refine bodyPost_ret (v := .tuple #[.agg #[.int .i64 x.e, .int .i64 x.g, .slice x.A x.n x.c], .bool true]) ?_ rfl ⟨x, true, rfl, (by rw [hsn.1, hpk]; exact HR2.out.opt), hex.1, Fr.of_ok HR2.out.ok, ?_, hex.2.2⟩
          · rw [results_cell_tmp rfl]
            go_simp
          · rw [hsn.2, hpk]; simp only [if_true]; exact hex.2.1
        · have z00 : t1.cell? ⟨v1.heap.size, 0, none⟩ = some (.int .i64 o.e) := HSIt1.out.b1.cell 0
          have z01 : t1.cell? ⟨v1.heap.size, 1, none⟩ = some (.int .i64 o.g) := HSIt1.out.b1.cell 1
          have z02 : t1.cell? ⟨v1.heap.size, 2, none⟩ = some (.slice o.A o.n o.c) := HSIt1.out.b1.cell 2
          have z10 : t1.cell? ⟨v2.heap.size, 0, none⟩ = some (.int .i64 x.e) := HSIt1.out.b2.cell 0
          have z11 : t1.cell? ⟨v2.heap.size, 1, none⟩ = some (.int .i64 x.g) := HSIt1.out.b2.cell 1
          have z12 : t1.cell? ⟨v2.heap.size, 2, none⟩ = some (.slice x.A x.n x.c) := HSIt1.out.b2.cell 2
          have z20 : t1.cell? ⟨v3.heap.size, 0, none⟩ = some (.int .i64 y.e) := HSIt1.out.b3.cell 0
          have z21 : t1.cell? ⟨v3.heap.size, 1, none⟩ = some (.int .i64 y.g) := HSIt1.out.b3.cell 1
          have z22 : t1.cell? ⟨v3.heap.size, 2, none⟩ = some (.slice y.A y.n y.c) := HSIt1.out.b3.cell 2
          have n0 : t1.cell? ⟨w.heap.size + 3, 0, none⟩ = some (.int .i64 0) := HSIt1.out.r.cell 0
          have n1 : t1.cell? ⟨w.heap.size + 3, 1, none⟩ = some (.int .i64 0) := HSIt1.out.r.cell 1
          have n2 : t1.cell? ⟨w.heap.size + 3, 2, none⟩ = some (.slice none 0 0) := HSIt1.out.r.cell 2
          have m0 := HSIt1.out.r.frozen 0
          have m1 := HSIt1.out.r.frozen 1
          have m2 := HSIt1.out.r.frozen 2
          go_wp2_with fail
          have hsn := slot_not (K := K) (n := n) (O := FO) (X := FX) (Y := FY) (fun a b c h1 h2 h3 => by rw [HR1.out.opt] at h1; cases h1)
          have hpk : pick FO FX FY = _ := pickG_1 (of_decide_eq_true HPL.out.1.symm)
          (try simp only [Exit.inBlock, Exit.then])
          have hex := slot_exit HSIt1.out.r HSt1.out HPt1.out (ItY.of_ok (HR2.out.ok.lowB HBt1.out) (Nat.le_refl _)) hrB hrw (.int .i64 x.e) (.int .i64 x.g) (.slice x.A x.n x.c)
          refine bodyPost_ret (v := .tuple #[.agg #[.int .i64 x.e, .int .i64 x.g, .slice x.A x.n x.c], .bool true]) ?_ rfl ⟨x, true, rfl, (by rw [hsn.1, hpk]; exact HR2.out.opt), hex.1, Fr.of_ok HR2.out.ok, ?_, hex.2.2⟩
          · rw [results_cell_tmp rfl]
            go_simp
          · rw [hsn.2, hpk]; simp only [Bool.false_eq_true, if_false, List.append_nil]; exact hex.2.1
  · cases xb
    · cases yb
      · go_wp2_with fail
        rw [← hw3]
        (with_reducible refine (HE12.out w3 HBw3.out).mono ?_)
        rintro e t1 ⟨rfl, hj1⟩
        have HBt1 : Hid (Below B w t1) := Lib.hid (HBw3.out.trans (hj1.mono (Nat.le_trans hBw HBw3.out.size)))
        have HSIt1 : Hid (SI (w.heap.size + 3) v1.heap.size v2.heap.size v3.heap.size t1 o x y) := Lib.hid (HSIw3.out.kx (F := []) (Kx.of_below (B := B) hj1) (by simp))
        have HSt1 : Hid (MgSt t1 base m L) := Lib.hid (HSw3.out.below hj1)
        have HPt1 : Hid (Kp base 73 m w t1) := Lib.hid (HPw3.out.trans (Kp.of_below hj1 (Nat.le_refl _)))
        clear hj1
        have hdt : d1 = true := by rw [HDD.out.1, HR2.out.nil rfl, HR3.out.nil rfl]; simp
        subst hdt
        have z00 : t1.cell? ⟨v1.heap.size, 0, none⟩ = some (.int .i64 o.e) := HSIt1.out.b1.cell 0
        have z01 : t1.cell? ⟨v1.heap.size, 1, none⟩ = some (.int .i64 o.g) := HSIt1.out.b1.cell 1
        have z02 : t1.cell? ⟨v1.heap.size, 2, none⟩ = some (.slice o.A o.n o.c) := HSIt1.out.b1.cell 2
        have z10 : t1.cell? ⟨v2.heap.size, 0, none⟩ = some (.int .i64 x.e) := HSIt1.out.b2.cell 0
        have z11 : t1.cell? ⟨v2.heap.size, 1, none⟩ = some (.int .i64 x.g) := HSIt1.out.b2.cell 1
        have z12 : t1.cell? ⟨v2.heap.size, 2, none⟩ = some (.slice x.A x.n x.c) := HSIt1.out.b2.cell 2
        have z20 : t1.cell? ⟨v3.heap.size, 0, none⟩ = some (.int .i64 y.e) := HSIt1.out.b3.cell 0
        have z21 : t1.cell? ⟨v3.heap.size, 1, none⟩ = some (.int .i64 y.g) := HSIt1.out.b3.cell 1
        have z22 : t1.cell? ⟨v3.heap.size, 2, none⟩ = some (.slice y.A y.n y.c) := HSIt1.out.b3.cell 2
        have n0 : t1.cell? ⟨w.heap.size + 3, 0, none⟩ = some (.int .i64 0) := HSIt1.out.r.cell 0
        have n1 : t1.cell? ⟨w.heap.size + 3, 1, none⟩ = some (.int .i64 0) := HSIt1.out.r.cell 1
        have n2 : t1.cell? ⟨w.heap.size + 3, 2, none⟩ = some (.slice none 0 0) := HSIt1.out.r.cell 2
        have m0 := HSIt1.out.r.frozen 0
        have m1 := HSIt1.out.r.frozen 1
        have m2 := HSIt1.out.r.frozen 2
        go_wp2_with fail
        have hsn := slot_not (K := K) (n := n) (O := FO) (X := FX) (Y := FY) (fun a b c h1 h2 h3 => by rw [HR2.out.opt] at h2; cases h2)
        have hpk : pick FO FX FY = _ := pickG_1 (of_decide_eq_true HPL.out.1.symm)
        (try simp only [Exit.inBlock, Exit.then])
        have hex := slot_exit HSIt1.out.r HSt1.out HPt1.out (ItY.of_ok (HR2.out.ok.lowB HBt1.out) (Nat.le_refl _)) hrB hrw (.int .i64 x.e) (.int .i64 x.g) (.slice x.A x.n x.c)
        refine bodyPost_ret (v := .tuple #[.agg #[.int .i64 x.e, .int .i64 x.g, .slice x.A x.n x.c], .bool false]) ?_ rfl ⟨x, false, rfl, (by rw [hsn.1, hpk]; exact HR2.out.opt), hex.1, Fr.of_ok HR2.out.ok, ?_, hex.2.2⟩
        · rw [results_cell_tmp rfl]
          go_simp
        · rw [hsn.2, hpk]; simp only [Bool.false_eq_true, if_false, List.append_nil]; exact hex.2.1
      · go_wp2_with fail
        rw [← hw3]
        (with_reducible refine (HE23.out w3 HBw3.out).mono ?_)
        rintro e t1 ⟨rfl, hj1⟩
        have HBt1 : Hid (Below B w t1) := Lib.hid (HBw3.out.trans (hj1.mono (Nat.le_trans hBw HBw3.out.size)))
        have HSIt1 : Hid (SI (w.heap.size + 3) v1.heap.size v2.heap.size v3.heap.size t1 o x y) := Lib.hid (HSIw3.out.kx (F := []) (Kx.of_below (B := B) hj1) (by simp))
        have HSt1 : Hid (MgSt t1 base m L) := Lib.hid (HSw3.out.below hj1)
        have HPt1 : Hid (Kp base 73 m w t1) := Lib.hid (HPw3.out.trans (Kp.of_below hj1 (Nat.le_refl _)))
        clear hj1
        cases d3
        · obtain ⟨CA, cc, hbk, how⟩ := HSt1.out.ex
          obtain ⟨q, hq⟩ : ∃ q, q = L.length := ⟨_, rfl⟩
          rw [← hq] at hbk how
          have c4 : t1.cell? ⟨m, 0, none⟩ = some (.slice CA q cc) := hbk.cell 0
          have HBK := Lib.hid hbk
          have HOW := Lib.hid how
          have hq9 : q + 1 ≤ 100000001 := by have := HLL.out; omega
          have hws : base ≤ t1.heap.size := Nat.le_trans hbw HBt1.out.size
          have HQ := Lib.hid hq
          clear hbk how hq
          have z00 : t1.cell? ⟨v1.heap.size, 0, none⟩ = some (.int .i64 o.e) := HSIt1.out.b1.cell 0
          have z01 : t1.cell? ⟨v1.heap.size, 1, none⟩ = some (.int .i64 o.g) := HSIt1.out.b1.cell 1
          have z02 : t1.cell? ⟨v1.heap.size, 2, none⟩ = some (.slice o.A o.n o.c) := HSIt1.out.b1.cell 2
          have z10 : t1.cell? ⟨v2.heap.size, 0, none⟩ = some (.int .i64 x.e) := HSIt1.out.b2.cell 0
          have z11 : t1.cell? ⟨v2.heap.size, 1, none⟩ = some (.int .i64 x.g) := HSIt1.out.b2.cell 1
          have z12 : t1.cell? ⟨v2.heap.size, 2, none⟩ = some (.slice x.A x.n x.c) := HSIt1.out.b2.cell 2
          have z20 : t1.cell? ⟨v3.heap.size, 0, none⟩ = some (.int .i64 y.e) := HSIt1.out.b3.cell 0
          have z21 : t1.cell? ⟨v3.heap.size, 1, none⟩ = some (.int .i64 y.g) := HSIt1.out.b3.cell 1
          have z22 : t1.cell? ⟨v3.heap.size, 2, none⟩ = some (.slice y.A y.n y.c) := HSIt1.out.b3.cell 2
          go_wp2_with
            (at_builtin
             go_must (refine wpList_append_one _ rfl (.tmp 103) (.tmp 106) _ rfl base 73 iC (.agg #[.int .i64 0, .int .i64 0, .int .i64 0, .int .i64 0]) 4 32 Try.underlying55 hiC hzC0 hzC1 hzC2 rfl (by decide) (.slice CA q cc) q (clCs L) rfl (HOW.out.alloc _) t1.heap.size 1 73 #[.int .i64 0, .int .i64 n, .int .i64 0, .int .i64 0] rfl (Bk.new _ _ _) rfl ?c1 (q + 1) rfl ?c2 ?c3 ?c4 ?_)
             case c1 => simp [Value.oneCell']
             case c2 => unfold maxLen; omega
             case c3 => omega
             case c4 => (simp; omega)
             intro g8 c8 w8 hown8 hg8 hat8
             have hne8 : some m ≠ (Value.slice CA q cc).ownBlock := fun e => own_ne HOW.out HBK.out (by decide) e.symm
             have hk8 : Bk w8 m 198 #[.slice CA q cc] := (HBK.out.alloc _).grown hg8 hne8
             have c81 : w8.cell? ⟨m, 0, none⟩ = some (.slice CA q cc) := hk8.cell 0
             have f81 := hk8.frozen 0
             obtain ⟨W9, hW9⟩ : ∃ W9, W9 = w8.setCell ⟨m, 0, none⟩ (.slice (some ⟨g8, 0, none⟩) (q + 1) c8) := ⟨_, rfl⟩
             have hmp := mg_push (B := B) ((0, n, 0, 0) : Cl) HOW.out HBK.out HQ.out hown8 hg8 hB hm
             rw [← hW9] at hmp
             have HM9 := Lib.hid hmp.1
             have HSIW9 : Hid (SI (w.heap.size + 3) v1.heap.size v2.heap.size v3.heap.size W9 o x y) := Lib.hid (HSIt1.out.kx hmp.2.1 (by decide))
             have HPW9 := Lib.hid (hmp.2.2 w HPt1.out)
             have HBW9 : Hid (Below B w W9) := Lib.hid (HPW9.out.lowB hB hm hBw)
             have t10 : W9.cell? ⟨v2.heap.size, 0, none⟩ = some (.int .i64 x.e) := HSIW9.out.b2.cell 0
             have t11 : W9.cell? ⟨v2.heap.size, 1, none⟩ = some (.int .i64 x.g) := HSIW9.out.b2.cell 1
             have t12 : W9.cell? ⟨v2.heap.size, 2, none⟩ = some (.slice x.A x.n x.c) := HSIW9.out.b2.cell 2
             have n0 : W9.cell? ⟨w.heap.size + 3, 0, none⟩ = some (.int .i64 0) := HSIW9.out.r.cell 0
             have n1 : W9.cell? ⟨w.heap.size + 3, 1, none⟩ = some (.int .i64 0) := HSIW9.out.r.cell 1
             have n2 : W9.cell? ⟨w.heap.size + 3, 2, none⟩ = some (.slice none 0 0) := HSIW9.out.r.cell 2
             have m0 := HSIW9.out.r.frozen 0
             have m1 := HSIW9.out.r.frozen 1
             have m2 := HSIW9.out.r.frozen 2
             rw [hW9] at t10 t11 t12 n0 n1 n2 m0 m1 m2
             clear hne8 hk8 hmp hown8 hg8 hat8)
          have hsn := slot_not (K := K) (n := n) (O := FO) (X := FX) (Y := FY) (fun a b c h1 h2 h3 => by rw [HR2.out.opt] at h2; cases h2)
          have hpk : pick FO FX FY = _ := pickG_4 (of_decide_eq_false HPL.out.1.symm) (of_decide_eq_false HPL.out.2.1.symm) (of_decide_eq_false HPL.out.2.2.symm)
          rw [← hW9]
          (try simp only [Exit.inBlock, Exit.then])
          have hex := slot_exit HSIW9.out.r HM9.out HPW9.out (ItY.of_ok (HR2.out.ok.lowB HBW9.out) (Nat.le_refl _)) hrB hrw (.int .i64 x.e) (.int .i64 x.g) (.slice x.A x.n x.c)
          refine bodyPost_ret (v := .tuple #[.agg #[.int .i64 x.e, .int .i64 x.g, .slice x.A x.n x.c], .bool false]) ?_ rfl ⟨x, false, rfl, (by rw [hsn.1, hpk]; exact HR2.out.opt), hex.1, Fr.of_ok HR2.out.ok, ?_, hex.2.2⟩
          · rw [results_cell_tmp rfl]
            go_simp
          · rw [hsn.2, hpk]; simp only [if_true]; exact hex.2.1
        · have z00 : t1.cell? ⟨v1.heap.size, 0, none⟩ = some (.int .i64 o.e) := HSIt1.out.b1.cell 0
          have z01 : t1.cell? ⟨v1.heap.size, 1, none⟩ = some (.int .i64 o.g) := HSIt1.out.b1.cell 1
          have z02 : t1.cell? ⟨v1.heap.size, 2, none⟩ = some (.slice o.A o.n o.c) := HSIt1.out.b1.cell 2
          have z10 : t1.cell? ⟨v2.heap.size, 0, none⟩ = some (.int .i64 x.e) := HSIt1.out.b2.cell 0
          have z11 : t1.cell? ⟨v2.heap.size, 1, none⟩ = some (.int .i64 x.g) := HSIt1.out.b2.cell 1
          have z12 : t1.cell? ⟨v2.heap.size, 2, none⟩ = some (.slice x.A x.n x.c) := HSIt1.out.b2.cell 2
          have z20 : t1.cell? ⟨v3.heap.size, 0, none⟩ = some (.int .i64 y.e) := HSIt1.out.b3.cell 0
          have z21 : t1.cell? ⟨v3.heap.size, 1, none⟩ = some (.int .i64 y.g) := HSIt1.out.b3.cell 1
          have z22 : t1.cell? ⟨v3.heap.size, 2, none⟩ = some (.slice y.A y.n y.c) := HSIt1.out.b3.cell 2
          have n0 : t1.cell? ⟨w.heap.size + 3, 0, none⟩ = some (.int .i64 0) := HSIt1.out.r.cell 0
          have n1 : t1.cell? ⟨w.heap.size + 3, 1, none⟩ = some (.int .i64 0) := HSIt1.out.r.cell 1
          have n2 : t1.cell? ⟨w.heap.size + 3, 2, none⟩ = some (.slice none 0 0) := HSIt1.out.r.cell 2
          have m0 := HSIt1.out.r.frozen 0
          have m1 := HSIt1.out.r.frozen 1
          have m2 := HSIt1.out.r.frozen 2
          go_wp2_with fail
          have hsn := slot_not (K := K) (n := n) (O := FO) (X := FX) (Y := FY) (fun a b c h1 h2 h3 => by rw [HR2.out.opt] at h2; cases h2)
          have hpk : pick FO FX FY = _ := pickG_3 (of_decide_eq_false HPL.out.1.symm) (of_decide_eq_false HPL.out.2.1.symm) (of_decide_eq_true HPL.out.2.2.symm)
          (try simp only [Exit.inBlock, Exit.then])
          have hex := slot_exit HSIt1.out.r HSt1.out HPt1.out (ItY.of_ok (HR2.out.ok.lowB HBt1.out) (Nat.le_refl _)) hrB hrw (.int .i64 x.e) (.int .i64 x.g) (.slice x.A x.n x.c)
          refine bodyPost_ret (v := .tuple #[.agg #[.int .i64 x.e, .int .i64 x.g, .slice x.A x.n x.c], .bool false]) ?_ rfl ⟨x, false, rfl, (by rw [hsn.1, hpk]; exact HR2.out.opt), hex.1, Fr.of_ok HR2.out.ok, ?_, hex.2.2⟩
          · rw [results_cell_tmp rfl]
            go_simp
          · rw [hsn.2, hpk]; simp only [Bool.false_eq_true, if_false, List.append_nil]; exact hex.2.1
    · cases yb
      · go_wp2_with fail
        rw [← hw3]
        (with_reducible refine (HE13.out w3 HBw3.out).mono ?_)
        rintro e t1 ⟨rfl, hj1⟩
        have HBt1 : Hid (Below B w t1) := Lib.hid (HBw3.out.trans (hj1.mono (Nat.le_trans hBw HBw3.out.size)))
        have HSIt1 : Hid (SI (w.heap.size + 3) v1.heap.size v2.heap.size v3.heap.size t1 o x y) := Lib.hid (HSIw3.out.kx (F := []) (Kx.of_below (B := B) hj1) (by simp))
        have HSt1 : Hid (MgSt t1 base m L) := Lib.hid (HSw3.out.below hj1)
        have HPt1 : Hid (Kp base 73 m w t1) := Lib.hid (HPw3.out.trans (Kp.of_below hj1 (Nat.le_refl _)))
        clear hj1
        cases d2
        · obtain ⟨CA, cc, hbk, how⟩ := HSt1.out.ex
          obtain ⟨q, hq⟩ : ∃ q, q = L.length := ⟨_, rfl⟩
          rw [← hq] at hbk how
          have c4 : t1.cell? ⟨m, 0, none⟩ = some (.slice CA q cc) := hbk.cell 0
          have HBK := Lib.hid hbk
          have HOW := Lib.hid how
          have hq9 : q + 1 ≤ 100000001 := by have := HLL.out; omega
          have hws : base ≤ t1.heap.size := Nat.le_trans hbw HBt1.out.size
          have HQ := Lib.hid hq
          clear hbk how hq
          have z00 : t1.cell? ⟨v1.heap.size, 0, none⟩ = some (.int .i64 o.e) := HSIt1.out.b1.cell 0
          have z01 : t1.cell? ⟨v1.heap.size, 1, none⟩ = some (.int .i64 o.g) := HSIt1.out.b1.cell 1
          have z02 : t1.cell? ⟨v1.heap.size, 2, none⟩ = some (.slice o.A o.n o.c) := HSIt1.out.b1.cell 2
          have z10 : t1.cell? ⟨v2.heap.size, 0, none⟩ = some (.int .i64 x.e) := HSIt1.out.b2.cell 0
          have z11 : t1.cell? ⟨v2.heap.size, 1, none⟩ = some (.int .i64 x.g) := HSIt1.out.b2.cell 1
          have z12 : t1.cell? ⟨v2.heap.size, 2, none⟩ = some (.slice x.A x.n x.c) := HSIt1.out.b2.cell 2
          have z20 : t1.cell? ⟨v3.heap.size, 0, none⟩ = some (.int .i64 y.e) := HSIt1.out.b3.cell 0
          have z21 : t1.cell? ⟨v3.heap.size, 1, none⟩ = some (.int .i64 y.g) := HSIt1.out.b3.cell 1
          have z22 : t1.cell? ⟨v3.heap.size, 2, none⟩ = some (.slice y.A y.n y.c) := HSIt1.out.b3.cell 2
          go_wp2_with
            (at_builtin
             go_must (refine wpList_append_one _ rfl (.tmp 103) (.tmp 106) _ rfl base 73 iC (.agg #[.int .i64 0, .int .i64 0, .int .i64 0, .int .i64 0]) 4 32 Try.underlying55 hiC hzC0 hzC1 hzC2 rfl (by decide) (.slice CA q cc) q (clCs L) rfl (HOW.out.alloc _) t1.heap.size 1 73 #[.int .i64 0, .int .i64 n, .int .i64 0, .int .i64 0] rfl (Bk.new _ _ _) rfl ?c1 (q + 1) rfl ?c2 ?c3 ?c4 ?_)
             case c1 => simp [Value.oneCell']
             case c2 => unfold maxLen; omega
             case c3 => omega
             case c4 => (simp; omega)
             intro g8 c8 w8 hown8 hg8 hat8
             have hne8 : some m ≠ (Value.slice CA q cc).ownBlock := fun e => own_ne HOW.out HBK.out (by decide) e.symm
             have hk8 : Bk w8 m 198 #[.slice CA q cc] := (HBK.out.alloc _).grown hg8 hne8
             have c81 : w8.cell? ⟨m, 0, none⟩ = some (.slice CA q cc) := hk8.cell 0
             have f81 := hk8.frozen 0
             obtain ⟨W9, hW9⟩ : ∃ W9, W9 = w8.setCell ⟨m, 0, none⟩ (.slice (some ⟨g8, 0, none⟩) (q + 1) c8) := ⟨_, rfl⟩
             have hmp := mg_push (B := B) ((0, n, 0, 0) : Cl) HOW.out HBK.out HQ.out hown8 hg8 hB hm
             rw [← hW9] at hmp
             have HM9 := Lib.hid hmp.1
             have HSIW9 : Hid (SI (w.heap.size + 3) v1.heap.size v2.heap.size v3.heap.size W9 o x y) := Lib.hid (HSIt1.out.kx hmp.2.1 (by decide))
             have HPW9 := Lib.hid (hmp.2.2 w HPt1.out)
             have HBW9 : Hid (Below B w W9) := Lib.hid (HPW9.out.lowB hB hm hBw)
             have t10 : W9.cell? ⟨v2.heap.size, 0, none⟩ = some (.int .i64 x.e) := HSIW9.out.b2.cell 0
             have t11 : W9.cell? ⟨v2.heap.size, 1, none⟩ = some (.int .i64 x.g) := HSIW9.out.b2.cell 1
             have t12 : W9.cell? ⟨v2.heap.size, 2, none⟩ = some (.slice x.A x.n x.c) := HSIW9.out.b2.cell 2
             have n0 : W9.cell? ⟨w.heap.size + 3, 0, none⟩ = some (.int .i64 0) := HSIW9.out.r.cell 0
             have n1 : W9.cell? ⟨w.heap.size + 3, 1, none⟩ = some (.int .i64 0) := HSIW9.out.r.cell 1
             have n2 : W9.cell? ⟨w.heap.size + 3, 2, none⟩ = some (.slice none 0 0) := HSIW9.out.r.cell 2
             have m0 := HSIW9.out.r.frozen 0
             have m1 := HSIW9.out.r.frozen 1
             have m2 := HSIW9.out.r.frozen 2
             rw [hW9] at t10 t11 t12 n0 n1 n2 m0 m1 m2
             clear hne8 hk8 hmp hown8 hg8 hat8)
          have hsn := slot_not (K := K) (n := n) (O := FO) (X := FX) (Y := FY) (fun a b c h1 h2 h3 => by rw [HR3.out.opt] at h3; cases h3)
          have hpk : pick FO FX FY = _ := pickG_4 (of_decide_eq_false HPL.out.1.symm) (of_decide_eq_false HPL.out.2.1.symm) (of_decide_eq_false HPL.out.2.2.symm)
          rw [← hW9]
          (try simp only [Exit.inBlock, Exit.then])
          have hex := slot_exit HSIW9.out.r HM9.out HPW9.out (ItY.of_ok (HR2.out.ok.lowB HBW9.out) (Nat.le_refl _)) hrB hrw (.int .i64 x.e) (.int .i64 x.g) (.slice x.A x.n x.c)
          refine bodyPost_ret (v := .tuple #[.agg #[.int .i64 x.e, .int .i64 x.g, .slice x.A x.n x.c], .bool true]) ?_ rfl ⟨x, true, rfl, (by rw [hsn.1, hpk]; exact HR2.out.opt), hex.1, Fr.of_ok HR2.out.ok, ?_, hex.2.2⟩
          · rw [results_cell_tmp rfl]
            go_simp
          · rw [hsn.2, hpk]; simp only [if_true]; exact hex.2.1
        · have z00 : t1.cell? ⟨v1.heap.size, 0, none⟩ = some (.int .i64 o.e) := HSIt1.out.b1.cell 0
          have z01 : t1.cell? ⟨v1.heap.size, 1, none⟩ = some (.int .i64 o.g) := HSIt1.out.b1.cell 1
          have z02 : t1.cell? ⟨v1.heap.size, 2, none⟩ = some (.slice o.A o.n o.c) := HSIt1.out.b1.cell 2
          have z10 : t1.cell? ⟨v2.heap.size, 0, none⟩ = some (.int .i64 x.e) := HSIt1.out.b2.cell 0
          have z11 : t1.cell? ⟨v2.heap.size, 1, none⟩ = some (.int .i64 x.g) := HSIt1.out.b2.cell 1
          have z12 : t1.cell? ⟨v2.heap.size, 2, none⟩ = some (.slice x.A x.n x.c) := HSIt1.out.b2.cell 2
          have z20 : t1.cell? ⟨v3.heap.size, 0, none⟩ = some (.int .i64 y.e) := HSIt1.out.b3.cell 0
          have z21 : t1.cell? ⟨v3.heap.size, 1, none⟩ = some (.int .i64 y.g) := HSIt1.out.b3.cell 1
          have z22 : t1.cell? ⟨v3.heap.size, 2, none⟩ = some (.slice y.A y.n y.c) := HSIt1.out.b3.cell 2
          have n0 : t1.cell? ⟨w.heap.size + 3, 0, none⟩ = some (.int .i64 0) := HSIt1.out.r.cell 0
          have n1 : t1.cell? ⟨w.heap.size + 3, 1, none⟩ = some (.int .i64 0) := HSIt1.out.r.cell 1
          have n2 : t1.cell? ⟨w.heap.size + 3, 2, none⟩ = some (.slice none 0 0) := HSIt1.out.r.cell 2
          have m0 := HSIt1.out.r.frozen 0
          have m1 := HSIt1.out.r.frozen 1
          have m2 := HSIt1.out.r.frozen 2
          go_wp2_with fail
          have hsn := slot_not (K := K) (n := n) (O := FO) (X := FX) (Y := FY) (fun a b c h1 h2 h3 => by rw [HR3.out.opt] at h3; cases h3)
          have hpk : pick FO FX FY = _ := pickG_2 (of_decide_eq_false HPL.out.1.symm) (of_decide_eq_true HPL.out.2.1.symm)
          (try simp only [Exit.inBlock, Exit.then])
          have hex := slot_exit HSIt1.out.r HSt1.out HPt1.out (ItY.of_ok (HR3.out.ok.lowB HBt1.out) (Nat.le_refl _)) hrB hrw (.int .i64 y.e) (.int .i64 y.g) (.slice y.A y.n y.c)
          refine bodyPost_ret (v := .tuple #[.agg #[.int .i64 y.e, .int .i64 y.g, .slice y.A y.n y.c], .bool false]) ?_ rfl ⟨y, false, rfl, (by rw [hsn.1, hpk]; exact HR3.out.opt), hex.1, Fr.of_ok HR3.out.ok, ?_, hex.2.2⟩
          · rw [results_cell_tmp rfl]
            go_simp
          · rw [hsn.2, hpk]; simp only [Bool.false_eq_true, if_false, List.append_nil]; exact hex.2.1
      · cases p1
        · go_wp2_with fail
          rw [← hw3]
          (with_reducible refine (HE12.out w3 HBw3.out).mono ?_)
          rintro e t1 ⟨rfl, hj1⟩
          have HBt1 : Hid (Below B w t1) := Lib.hid (HBw3.out.trans (hj1.mono (Nat.le_trans hBw HBw3.out.size)))
          have HSIt1 : Hid (SI (w.heap.size + 3) v1.heap.size v2.heap.size v3.heap.size t1 o x y) := Lib.hid (HSIw3.out.kx (F := []) (Kx.of_below (B := B) hj1) (by simp))
          have HSt1 : Hid (MgSt t1 base m L) := Lib.hid (HSw3.out.below hj1)
          have HPt1 : Hid (Kp base 73 m w t1) := Lib.hid (HPw3.out.trans (Kp.of_below hj1 (Nat.le_refl _)))
          clear hj1
          cases d1
          · have z00 : t1.cell? ⟨v1.heap.size, 0, none⟩ = some (.int .i64 o.e) := HSIt1.out.b1.cell 0
            have z01 : t1.cell? ⟨v1.heap.size, 1, none⟩ = some (.int .i64 o.g) := HSIt1.out.b1.cell 1
            have z02 : t1.cell? ⟨v1.heap.size, 2, none⟩ = some (.slice o.A o.n o.c) := HSIt1.out.b1.cell 2
            have z10 : t1.cell? ⟨v2.heap.size, 0, none⟩ = some (.int .i64 x.e) := HSIt1.out.b2.cell 0
            have z11 : t1.cell? ⟨v2.heap.size, 1, none⟩ = some (.int .i64 x.g) := HSIt1.out.b2.cell 1
            have z12 : t1.cell? ⟨v2.heap.size, 2, none⟩ = some (.slice x.A x.n x.c) := HSIt1.out.b2.cell 2
            have z20 : t1.cell? ⟨v3.heap.size, 0, none⟩ = some (.int .i64 y.e) := HSIt1.out.b3.cell 0
            have z21 : t1.cell? ⟨v3.heap.size, 1, none⟩ = some (.int .i64 y.g) := HSIt1.out.b3.cell 1
            have z22 : t1.cell? ⟨v3.heap.size, 2, none⟩ = some (.slice y.A y.n y.c) := HSIt1.out.b3.cell 2
            go_wp2_with fail
            (with_reducible refine (HE13.out t1 HBt1.out).mono ?_)
            rintro e t2 ⟨rfl, hj2⟩
            have HBt2 : Hid (Below B w t2) := Lib.hid (HBt1.out.trans (hj2.mono (Nat.le_trans hBw HBt1.out.size)))
            have HSIt2 : Hid (SI (w.heap.size + 3) v1.heap.size v2.heap.size v3.heap.size t2 o x y) := Lib.hid (HSIt1.out.kx (F := []) (Kx.of_below (B := B) hj2) (by simp))
            have HSt2 : Hid (MgSt t2 base m L) := Lib.hid (HSt1.out.below hj2)
            have HPt2 : Hid (Kp base 73 m w t2) := Lib.hid (HPt1.out.trans (Kp.of_below hj2 (Nat.le_refl _)))
            clear hj2
            cases d2
            · have z00 : t2.cell? ⟨v1.heap.size, 0, none⟩ = some (.int .i64 o.e) := HSIt2.out.b1.cell 0
              have z01 : t2.cell? ⟨v1.heap.size, 1, none⟩ = some (.int .i64 o.g) := HSIt2.out.b1.cell 1
              have z02 : t2.cell? ⟨v1.heap.size, 2, none⟩ = some (.slice o.A o.n o.c) := HSIt2.out.b1.cell 2
              have z10 : t2.cell? ⟨v2.heap.size, 0, none⟩ = some (.int .i64 x.e) := HSIt2.out.b2.cell 0
              have z11 : t2.cell? ⟨v2.heap.size, 1, none⟩ = some (.int .i64 x.g) := HSIt2.out.b2.cell 1
              have z12 : t2.cell? ⟨v2.heap.size, 2, none⟩ = some (.slice x.A x.n x.c) := HSIt2.out.b2.cell 2
              have z20 : t2.cell? ⟨v3.heap.size, 0, none⟩ = some (.int .i64 y.e) := HSIt2.out.b3.cell 0
              have z21 : t2.cell? ⟨v3.heap.size, 1, none⟩ = some (.int .i64 y.g) := HSIt2.out.b3.cell 1
              have z22 : t2.cell? ⟨v3.heap.size, 2, none⟩ = some (.slice y.A y.n y.c) := HSIt2.out.b3.cell 2
              go_wp2_with fail
              (with_reducible refine (HE23.out t2 HBt2.out).mono ?_)
              rintro e t3 ⟨rfl, hj3⟩
              have HBt3 : Hid (Below B w t3) := Lib.hid (HBt2.out.trans (hj3.mono (Nat.le_trans hBw HBt2.out.size)))
              have HSIt3 : Hid (SI (w.heap.size + 3) v1.heap.size v2.heap.size v3.heap.size t3 o x y) := Lib.hid (HSIt2.out.kx (F := []) (Kx.of_below (B := B) hj3) (by simp))
              have HSt3 : Hid (MgSt t3 base m L) := Lib.hid (HSt2.out.below hj3)
              have HPt3 : Hid (Kp base 73 m w t3) := Lib.hid (HPt2.out.trans (Kp.of_below hj3 (Nat.le_refl _)))
              clear hj3
              cases d3
              · obtain ⟨CA, cc, hbk, how⟩ := HSt3.out.ex
                obtain ⟨q, hq⟩ : ∃ q, q = L.length := ⟨_, rfl⟩
                rw [← hq] at hbk how
                have c4 : t3.cell? ⟨m, 0, none⟩ = some (.slice CA q cc) := hbk.cell 0
                have HBK := Lib.hid hbk
                have HOW := Lib.hid how
                have hq9 : q + 1 ≤ 100000001 := by have := HLL.out; omega
                have hws : base ≤ t3.heap.size := Nat.le_trans hbw HBt3.out.size
                have HQ := Lib.hid hq
                clear hbk how hq
                have z00 : t3.cell? ⟨v1.heap.size, 0, none⟩ = some (.int .i64 o.e) := HSIt3.out.b1.cell 0
                have z01 : t3.cell? ⟨v1.heap.size, 1, none⟩ = some (.int .i64 o.g) := HSIt3.out.b1.cell 1
                have z02 : t3.cell? ⟨v1.heap.size, 2, none⟩ = some (.slice o.A o.n o.c) := HSIt3.out.b1.cell 2
                have z10 : t3.cell? ⟨v2.heap.size, 0, none⟩ = some (.int .i64 x.e) := HSIt3.out.b2.cell 0
                have z11 : t3.cell? ⟨v2.heap.size, 1, none⟩ = some (.int .i64 x.g) := HSIt3.out.b2.cell 1
                have z12 : t3.cell? ⟨v2.heap.size, 2, none⟩ = some (.slice x.A x.n x.c) := HSIt3.out.b2.cell 2
                have z20 : t3.cell? ⟨v3.heap.size, 0, none⟩ = some (.int .i64 y.e) := HSIt3.out.b3.cell 0
                have z21 : t3.cell? ⟨v3.heap.size, 1, none⟩ = some (.int .i64 y.g) := HSIt3.out.b3.cell 1
                have z22 : t3.cell? ⟨v3.heap.size, 2, none⟩ = some (.slice y.A y.n y.c) := HSIt3.out.b3.cell 2
                go_wp2_with
                  (at_builtin
                   go_must (refine wpList_append_one _ rfl (.tmp 103) (.tmp 106) _ rfl base 73 iC (.agg #[.int .i64 0, .int .i64 0, .int .i64 0, .int .i64 0]) 4 32 Try.underlying55 hiC hzC0 hzC1 hzC2 rfl (by decide) (.slice CA q cc) q (clCs L) rfl (HOW.out.alloc _) t3.heap.size 1 73 #[.int .i64 0, .int .i64 n, .int .i64 0, .int .i64 0] rfl (Bk.new _ _ _) rfl ?c1 (q + 1) rfl ?c2 ?c3 ?c4 ?_)
                   case c1 => simp [Value.oneCell']
                   case c2 => unfold maxLen; omega
                   case c3 => omega
                   case c4 => (simp; omega)
                   intro g8 c8 w8 hown8 hg8 hat8
                   have hne8 : some m ≠ (Value.slice CA q cc).ownBlock := fun e => own_ne HOW.out HBK.out (by decide) e.symm
                   have hk8 : Bk w8 m 198 #[.slice CA q cc] := (HBK.out.alloc _).grown hg8 hne8
                   have c81 : w8.cell? ⟨m, 0, none⟩ = some (.slice CA q cc) := hk8.cell 0
                   have f81 := hk8.frozen 0
                   obtain ⟨W9, hW9⟩ : ∃ W9, W9 = w8.setCell ⟨m, 0, none⟩ (.slice (some ⟨g8, 0, none⟩) (q + 1) c8) := ⟨_, rfl⟩
                   have hmp := mg_push (B := B) ((0, n, 0, 0) : Cl) HOW.out HBK.out HQ.out hown8 hg8 hB hm
                   rw [← hW9] at hmp
                   have HM9 := Lib.hid hmp.1
                   have HSIW9 : Hid (SI (w.heap.size + 3) v1.heap.size v2.heap.size v3.heap.size W9 o x y) := Lib.hid (HSIt3.out.kx hmp.2.1 (by decide))
                   have HPW9 := Lib.hid (hmp.2.2 w HPt3.out)
                   have HBW9 : Hid (Below B w W9) := Lib.hid (HPW9.out.lowB hB hm hBw)
                   have t10 : W9.cell? ⟨v2.heap.size, 0, none⟩ = some (.int .i64 x.e) := HSIW9.out.b2.cell 0
                   have t11 : W9.cell? ⟨v2.heap.size, 1, none⟩ = some (.int .i64 x.g) := HSIW9.out.b2.cell 1
                   have t12 : W9.cell? ⟨v2.heap.size, 2, none⟩ = some (.slice x.A x.n x.c) := HSIW9.out.b2.cell 2
                   have n0 : W9.cell? ⟨w.heap.size + 3, 0, none⟩ = some (.int .i64 0) := HSIW9.out.r.cell 0
                   have n1 : W9.cell? ⟨w.heap.size + 3, 1, none⟩ = some (.int .i64 0) := HSIW9.out.r.cell 1
                   have n2 : W9.cell? ⟨w.heap.size + 3, 2, none⟩ = some (.slice none 0 0) := HSIW9.out.r.cell 2
                   have m0 := HSIW9.out.r.frozen 0
                   have m1 := HSIW9.out.r.frozen 1
                   have m2 := HSIW9.out.r.frozen 2
                   rw [hW9] at t10 t11 t12 n0 n1 n2 m0 m1 m2
                   clear hne8 hk8 hmp hown8 hg8 hat8)
                have hsn := slot_not (K := K) (n := n) (O := FO) (X := FX) (Y := FY) (fun a b c h1 h2 h3 h4 => by
        rw [HR1.out.opt] at h1
        rw [HR2.out.opt] at h2
        injection h1 with h1
        injection h2 with h2
        have h5 := h4.1
        rw [← h1, ← h2] at h5
        injection h5 with h5 h6
        exact of_decide_eq_false HP12.out.1.symm ⟨h5, h6⟩)
                have hpk : pick FO FX FY = _ := pickG_4 (of_decide_eq_false HPL.out.1.symm) (of_decide_eq_false HPL.out.2.1.symm) (of_decide_eq_false HPL.out.2.2.symm)
                rw [← hW9]
                (try simp only [Exit.inBlock, Exit.then])
                have hex := slot_exit HSIW9.out.r HM9.out HPW9.out (ItY.of_ok (HR2.out.ok.lowB HBW9.out) (Nat.le_refl _)) hrB hrw (.int .i64 x.e) (.int .i64 x.g) (.slice x.A x.n x.c)
                refine bodyPost_ret (v := .tuple #[.agg #[.int .i64 x.e, .int .i64 x.g, .slice x.A x.n x.c], .bool true]) ?_ rfl ⟨x, true, rfl, (by rw [hsn.1, hpk]; exact HR2.out.opt), hex.1, Fr.of_ok HR2.out.ok, ?_, hex.2.2⟩
                · rw [results_cell_tmp rfl]
                  go_simp
                · rw [hsn.2, hpk]; simp only [if_true]; exact hex.2.1
              · have z00 : t3.cell? ⟨v1.heap.size, 0, none⟩ = some (.int .i64 o.e) := HSIt3.out.b1.cell 0
                have z01 : t3.cell? ⟨v1.heap.size, 1, none⟩ = some (.int .i64 o.g) := HSIt3.out.b1.cell 1
                have z02 : t3.cell? ⟨v1.heap.size, 2, none⟩ = some (.slice o.A o.n o.c) := HSIt3.out.b1.cell 2
                have z10 : t3.cell? ⟨v2.heap.size, 0, none⟩ = some (.int .i64 x.e) := HSIt3.out.b2.cell 0
                have z11 : t3.cell? ⟨v2.heap.size, 1, none⟩ = some (.int .i64 x.g) := HSIt3.out.b2.cell 1
                have z12 : t3.cell? ⟨v2.heap.size, 2, none⟩ = some (.slice x.A x.n x.c) := HSIt3.out.b2.cell 2
                have z20 : t3.cell? ⟨v3.heap.size, 0, none⟩ = some (.int .i64 y.e) := HSIt3.out.b3.cell 0
                have z21 : t3.cell? ⟨v3.heap.size, 1, none⟩ = some (.int .i64 y.g) := HSIt3.out.b3.cell 1
                have z22 : t3.cell? ⟨v3.heap.size, 2, none⟩ = some (.slice y.A y.n y.c) := HSIt3.out.b3.cell 2
                have n0 : t3.cell? ⟨w.heap.size + 3, 0, none⟩ = some (.int .i64 0) := HSIt3.out.r.cell 0
                have n1 : t3.cell? ⟨w.heap.size + 3, 1, none⟩ = some (.int .i64 0) := HSIt3.out.r.cell 1
                have n2 : t3.cell? ⟨w.heap.size + 3, 2, none⟩ = some (.slice none 0 0) := HSIt3.out.r.cell 2
                have m0 := HSIt3.out.r.frozen 0
                have m1 := HSIt3.out.r.frozen 1
                have m2 := HSIt3.out.r.frozen 2
                go_wp2_with fail
                have hsn := slot_not (K := K) (n := n) (O := FO) (X := FX) (Y := FY) (fun a b c h1 h2 h3 h4 => by
        rw [HR1.out.opt] at h1
        rw [HR2.out.opt] at h2
        injection h1 with h1
        injection h2 with h2
        have h5 := h4.1
        rw [← h1, ← h2] at h5
        injection h5 with h5 h6
        exact of_decide_eq_false HP12.out.1.symm ⟨h5, h6⟩)
                have hpk : pick FO FX FY = _ := pickG_3 (of_decide_eq_false HPL.out.1.symm) (of_decide_eq_false HPL.out.2.1.symm) (of_decide_eq_true HPL.out.2.2.symm)
                (try simp only [Exit.inBlock, Exit.then])
                have hex := slot_exit HSIt3.out.r HSt3.out HPt3.out (ItY.of_ok (HR2.out.ok.lowB HBt3.out) (Nat.le_refl _)) hrB hrw (.int .i64 x.e) (.int .i64 x.g) (.slice x.A x.n x.c)
                refine bodyPost_ret (v := .tuple #[.agg #[.int .i64 x.e, .int .i64 x.g, .slice x.A x.n x.c], .bool true]) ?_ rfl ⟨x, true, rfl, (by rw [hsn.1, hpk]; exact HR2.out.opt), hex.1, Fr.of_ok HR2.out.ok, ?_, hex.2.2⟩
                · rw [results_cell_tmp rfl]
                  go_simp
                · rw [hsn.2, hpk]; simp only [Bool.false_eq_true, if_false, List.append_nil]; exact hex.2.1
            · have z00 : t2.cell? ⟨v1.heap.size, 0, none⟩ = some (.int .i64 o.e) := HSIt2.out.b1.cell 0
              have z01 : t2.cell? ⟨v1.heap.size, 1, none⟩ = some (.int .i64 o.g) := HSIt2.out.b1.cell 1
              have z02 : t2.cell? ⟨v1.heap.size, 2, none⟩ = some (.slice o.A o.n o.c) := HSIt2.out.b1.cell 2
              have z10 : t2.cell? ⟨v2.heap.size, 0, none⟩ = some (.int .i64 x.e) := HSIt2.out.b2.cell 0
              have z11 : t2.cell? ⟨v2.heap.size, 1, none⟩ = some (.int .i64 x.g) := HSIt2.out.b2.cell 1
              have z12 : t2.cell? ⟨v2.heap.size, 2, none⟩ = some (.slice x.A x.n x.c) := HSIt2.out.b2.cell 2
              have z20 : t2.cell? ⟨v3.heap.size, 0, none⟩ = some (.int .i64 y.e) := HSIt2.out.b3.cell 0
              have z21 : t2.cell? ⟨v3.heap.size, 1, none⟩ = some (.int .i64 y.g) := HSIt2.out.b3.cell 1
              have z22 : t2.cell? ⟨v3.heap.size, 2, none⟩ = some (.slice y.A y.n y.c) := HSIt2.out.b3.cell 2
              have n0 : t2.cell? ⟨w.heap.size + 3, 0, none⟩ = some (.int .i64 0) := HSIt2.out.r.cell 0
              have n1 : t2.cell? ⟨w.heap.size + 3, 1, none⟩ = some (.int .i64 0) := HSIt2.out.r.cell 1
              have n2 : t2.cell? ⟨w.heap.size + 3, 2, none⟩ = some (.slice none 0 0) := HSIt2.out.r.cell 2
              have m0 := HSIt2.out.r.frozen 0
              have m1 := HSIt2.out.r.frozen 1
              have m2 := HSIt2.out.r.frozen 2
              go_wp2_with fail
              have hsn := slot_not (K := K) (n := n) (O := FO) (X := FX) (Y := FY) (fun a b c h1 h2 h3 h4 => by
        rw [HR1.out.opt] at h1
        rw [HR2.out.opt] at h2
        injection h1 with h1
        injection h2 with h2
        have h5 := h4.1
        rw [← h1, ← h2] at h5
        injection h5 with h5 h6
        exact of_decide_eq_false HP12.out.1.symm ⟨h5, h6⟩)
              have hpk : pick FO FX FY = _ := pickG_2 (of_decide_eq_false HPL.out.1.symm) (of_decide_eq_true HPL.out.2.1.symm)
              (try simp only [Exit.inBlock, Exit.then])
              have hex := slot_exit HSIt2.out.r HSt2.out HPt2.out (ItY.of_ok (HR3.out.ok.lowB HBt2.out) (Nat.le_refl _)) hrB hrw (.int .i64 y.e) (.int .i64 y.g) (.slice y.A y.n y.c)
              refine bodyPost_ret (v := .tuple #[.agg #[.int .i64 y.e, .int .i64 y.g, .slice y.A y.n y.c], .bool true]) ?_ rfl ⟨y, true, rfl, (by rw [hsn.1, hpk]; exact HR3.out.opt), hex.1, Fr.of_ok HR3.out.ok, ?_, hex.2.2⟩
              · rw [results_cell_tmp rfl]
                go_simp
              · rw [hsn.2, hpk]; simp only [Bool.false_eq_true, if_false, List.append_nil]; exact hex.2.1
          · have z00 : t1.cell? ⟨v1.heap.size, 0, none⟩ = some (.int .i64 o.e) := HSIt1.out.b1.cell 0
            have z01 : t1.cell? ⟨v1.heap.size, 1, none⟩ = some (.int .i64 o.g) := HSIt1.out.b1.cell 1
            have z02 : t1.cell? ⟨v1.heap.size, 2, none⟩ = some (.slice o.A o.n o.c) := HSIt1.out.b1.cell 2
            have z10 : t1.cell? ⟨v2.heap.size, 0, none⟩ = some (.int .i64 x.e) := HSIt1.out.b2.cell 0
            have z11 : t1.cell? ⟨v2.heap.size, 1, none⟩ = some (.int .i64 x.g) := HSIt1.out.b2.cell 1
            have z12 : t1.cell? ⟨v2.heap.size, 2, none⟩ = some (.slice x.A x.n x.c) := HSIt1.out.b2.cell 2
            have z20 : t1.cell? ⟨v3.heap.size, 0, none⟩ = some (.int .i64 y.e) := HSIt1.out.b3.cell 0
            have z21 : t1.cell? ⟨v3.heap.size, 1, none⟩ = some (.int .i64 y.g) := HSIt1.out.b3.cell 1
            have z22 : t1.cell? ⟨v3.heap.size, 2, none⟩ = some (.slice y.A y.n y.c) := HSIt1.out.b3.cell 2
            have n0 : t1.cell? ⟨w.heap.size + 3, 0, none⟩ = some (.int .i64 0) := HSIt1.out.r.cell 0
            have n1 : t1.cell? ⟨w.heap.size + 3, 1, none⟩ = some (.int .i64 0) := HSIt1.out.r.cell 1
            have n2 : t1.cell? ⟨w.heap.size + 3, 2, none⟩ = some (.slice none 0 0) := HSIt1.out.r.cell 2
            have m0 := HSIt1.out.r.frozen 0
            have m1 := HSIt1.out.r.frozen 1
            have m2 := HSIt1.out.r.frozen 2
            go_wp2_with fail
            have hsn := slot_not (K := K) (n := n) (O := FO) (X := FX) (Y := FY) (fun a b c h1 h2 h3 h4 => by
        rw [HR1.out.opt] at h1
        rw [HR2.out.opt] at h2
        injection h1 with h1
        injection h2 with h2
        have h5 := h4.1
        rw [← h1, ← h2] at h5
        injection h5 with h5 h6
        exact of_decide_eq_false HP12.out.1.symm ⟨h5, h6⟩)
            have hpk : pick FO FX FY = _ := pickG_1 (of_decide_eq_true HPL.out.1.symm)
            (try simp only [Exit.inBlock, Exit.then])
            have hex := slot_exit HSIt1.out.r HSt1.out HPt1.out (ItY.of_ok (HR2.out.ok.lowB HBt1.out) (Nat.le_refl _)) hrB hrw (.int .i64 x.e) (.int .i64 x.g) (.slice x.A x.n x.c)
            refine bodyPost_ret (v := .tuple #[.agg #[.int .i64 x.e, .int .i64 x.g, .slice x.A x.n x.c], .bool true]) ?_ rfl ⟨x, true, rfl, (by rw [hsn.1, hpk]; exact HR2.out.opt), hex.1, Fr.of_ok HR2.out.ok, ?_, hex.2.2⟩
            · rw [results_cell_tmp rfl]
              go_simp
            · rw [hsn.2, hpk]; simp only [Bool.false_eq_true, if_false, List.append_nil]; exact hex.2.1
        · cases p2
          · go_wp2_with fail
            rw [← hw3]
            (with_reducible refine (HE12.out w3 HBw3.out).mono ?_)
            rintro e t1 ⟨rfl, hj1⟩
            have HBt1 : Hid (Below B w t1) := Lib.hid (HBw3.out.trans (hj1.mono (Nat.le_trans hBw HBw3.out.size)))
            have HSIt1 : Hid (SI (w.heap.size + 3) v1.heap.size v2.heap.size v3.heap.size t1 o x y) := Lib.hid (HSIw3.out.kx (F := []) (Kx.of_below (B := B) hj1) (by simp))
            have HSt1 : Hid (MgSt t1 base m L) := Lib.hid (HSw3.out.below hj1)
            have HPt1 : Hid (Kp base 73 m w t1) := Lib.hid (HPw3.out.trans (Kp.of_below hj1 (Nat.le_refl _)))
            clear hj1
            cases d1
            · have z00 : t1.cell? ⟨v1.heap.size, 0, none⟩ = some (.int .i64 o.e) := HSIt1.out.b1.cell 0
              have z01 : t1.cell? ⟨v1.heap.size, 1, none⟩ = some (.int .i64 o.g) := HSIt1.out.b1.cell 1
              have z02 : t1.cell? ⟨v1.heap.size, 2, none⟩ = some (.slice o.A o.n o.c) := HSIt1.out.b1.cell 2
              have z10 : t1.cell? ⟨v2.heap.size, 0, none⟩ = some (.int .i64 x.e) := HSIt1.out.b2.cell 0
              have z11 : t1.cell? ⟨v2.heap.size, 1, none⟩ = some (.int .i64 x.g) := HSIt1.out.b2.cell 1
              have z12 : t1.cell? ⟨v2.heap.size, 2, none⟩ = some (.slice x.A x.n x.c) := HSIt1.out.b2.cell 2
              have z20 : t1.cell? ⟨v3.heap.size, 0, none⟩ = some (.int .i64 y.e) := HSIt1.out.b3.cell 0
              have z21 : t1.cell? ⟨v3.heap.size, 1, none⟩ = some (.int .i64 y.g) := HSIt1.out.b3.cell 1
              have z22 : t1.cell? ⟨v3.heap.size, 2, none⟩ = some (.slice y.A y.n y.c) := HSIt1.out.b3.cell 2
              go_wp2_with fail
              (with_reducible refine (HE13.out t1 HBt1.out).mono ?_)
              rintro e t2 ⟨rfl, hj2⟩
              have HBt2 : Hid (Below B w t2) := Lib.hid (HBt1.out.trans (hj2.mono (Nat.le_trans hBw HBt1.out.size)))
              have HSIt2 : Hid (SI (w.heap.size + 3) v1.heap.size v2.heap.size v3.heap.size t2 o x y) := Lib.hid (HSIt1.out.kx (F := []) (Kx.of_below (B := B) hj2) (by simp))
              have HSt2 : Hid (MgSt t2 base m L) := Lib.hid (HSt1.out.below hj2)
              have HPt2 : Hid (Kp base 73 m w t2) := Lib.hid (HPt1.out.trans (Kp.of_below hj2 (Nat.le_refl _)))
              clear hj2
              cases d2
              · have z00 : t2.cell? ⟨v1.heap.size, 0, none⟩ = some (.int .i64 o.e) := HSIt2.out.b1.cell 0
                have z01 : t2.cell? ⟨v1.heap.size, 1, none⟩ = some (.int .i64 o.g) := HSIt2.out.b1.cell 1
                have z02 : t2.cell? ⟨v1.heap.size, 2, none⟩ = some (.slice o.A o.n o.c) := HSIt2.out.b1.cell 2
                have z10 : t2.cell? ⟨v2.heap.size, 0, none⟩ = some (.int .i64 x.e) := HSIt2.out.b2.cell 0
                have z11 : t2.cell? ⟨v2.heap.size, 1, none⟩ = some (.int .i64 x.g) := HSIt2.out.b2.cell 1
                have z12 : t2.cell? ⟨v2.heap.size, 2, none⟩ = some (.slice x.A x.n x.c) := HSIt2.out.b2.cell 2
                have z20 : t2.cell? ⟨v3.heap.size, 0, none⟩ = some (.int .i64 y.e) := HSIt2.out.b3.cell 0
                have z21 : t2.cell? ⟨v3.heap.size, 1, none⟩ = some (.int .i64 y.g) := HSIt2.out.b3.cell 1
                have z22 : t2.cell? ⟨v3.heap.size, 2, none⟩ = some (.slice y.A y.n y.c) := HSIt2.out.b3.cell 2
                go_wp2_with fail
                (with_reducible refine (HE23.out t2 HBt2.out).mono ?_)
                rintro e t3 ⟨rfl, hj3⟩
                have HBt3 : Hid (Below B w t3) := Lib.hid (HBt2.out.trans (hj3.mono (Nat.le_trans hBw HBt2.out.size)))
                have HSIt3 : Hid (SI (w.heap.size + 3) v1.heap.size v2.heap.size v3.heap.size t3 o x y) := Lib.hid (HSIt2.out.kx (F := []) (Kx.of_below (B := B) hj3) (by simp))
                have HSt3 : Hid (MgSt t3 base m L) := Lib.hid (HSt2.out.below hj3)
                have HPt3 : Hid (Kp base 73 m w t3) := Lib.hid (HPt2.out.trans (Kp.of_below hj3 (Nat.le_refl _)))
                clear hj3
                cases d3
                · obtain ⟨CA, cc, hbk, how⟩ := HSt3.out.ex
                  obtain ⟨q, hq⟩ : ∃ q, q = L.length := ⟨_, rfl⟩
                  rw [← hq] at hbk how
                  have c4 : t3.cell? ⟨m, 0, none⟩ = some (.slice CA q cc) := hbk.cell 0
                  have HBK := Lib.hid hbk
                  have HOW := Lib.hid how
                  have hq9 : q + 1 ≤ 100000001 := by have := HLL.out; omega
                  have hws : base ≤ t3.heap.size := Nat.le_trans hbw HBt3.out.size
                  have HQ := Lib.hid hq
                  clear hbk how hq
                  have z00 : t3.cell? ⟨v1.heap.size, 0, none⟩ = some (.int .i64 o.e) := HSIt3.out.b1.cell 0
                  have z01 : t3.cell? ⟨v1.heap.size, 1, none⟩ = some (.int .i64 o.g) := HSIt3.out.b1.cell 1
                  have z02 : t3.cell? ⟨v1.heap.size, 2, none⟩ = some (.slice o.A o.n o.c) := HSIt3.out.b1.cell 2
                  have z10 : t3.cell? ⟨v2.heap.size, 0, none⟩ = some (.int .i64 x.e) := HSIt3.out.b2.cell 0
                  have z11 : t3.cell? ⟨v2.heap.size, 1, none⟩ = some (.int .i64 x.g) := HSIt3.out.b2.cell 1
                  have z12 : t3.cell? ⟨v2.heap.size, 2, none⟩ = some (.slice x.A x.n x.c) := HSIt3.out.b2.cell 2
                  have z20 : t3.cell? ⟨v3.heap.size, 0, none⟩ = some (.int .i64 y.e) := HSIt3.out.b3.cell 0
                  have z21 : t3.cell? ⟨v3.heap.size, 1, none⟩ = some (.int .i64 y.g) := HSIt3.out.b3.cell 1
                  have z22 : t3.cell? ⟨v3.heap.size, 2, none⟩ = some (.slice y.A y.n y.c) := HSIt3.out.b3.cell 2
                  go_wp2_with
                    (at_builtin
                     go_must (refine wpList_append_one _ rfl (.tmp 103) (.tmp 106) _ rfl base 73 iC (.agg #[.int .i64 0, .int .i64 0, .int .i64 0, .int .i64 0]) 4 32 Try.underlying55 hiC hzC0 hzC1 hzC2 rfl (by decide) (.slice CA q cc) q (clCs L) rfl (HOW.out.alloc _) t3.heap.size 1 73 #[.int .i64 0, .int .i64 n, .int .i64 0, .int .i64 0] rfl (Bk.new _ _ _) rfl ?c1 (q + 1) rfl ?c2 ?c3 ?c4 ?_)
                     case c1 => simp [Value.oneCell']
                     case c2 => unfold maxLen; omega
                     case c3 => omega
                     case c4 => (simp; omega)
                     intro g8 c8 w8 hown8 hg8 hat8
                     have hne8 : some m ≠ (Value.slice CA q cc).ownBlock := fun e => own_ne HOW.out HBK.out (by decide) e.symm
                     have hk8 : Bk w8 m 198 #[.slice CA q cc] := (HBK.out.alloc _).grown hg8 hne8
                     have c81 : w8.cell? ⟨m, 0, none⟩ = some (.slice CA q cc) := hk8.cell 0
                     have f81 := hk8.frozen 0
                     obtain ⟨W9, hW9⟩ : ∃ W9, W9 = w8.setCell ⟨m, 0, none⟩ (.slice (some ⟨g8, 0, none⟩) (q + 1) c8) := ⟨_, rfl⟩
                     have hmp := mg_push (B := B) ((0, n, 0, 0) : Cl) HOW.out HBK.out HQ.out hown8 hg8 hB hm
                     rw [← hW9] at hmp
                     have HM9 := Lib.hid hmp.1
                     have HSIW9 : Hid (SI (w.heap.size + 3) v1.heap.size v2.heap.size v3.heap.size W9 o x y) := Lib.hid (HSIt3.out.kx hmp.2.1 (by decide))
                     have HPW9 := Lib.hid (hmp.2.2 w HPt3.out)
                     have HBW9 : Hid (Below B w W9) := Lib.hid (HPW9.out.lowB hB hm hBw)
                     have t10 : W9.cell? ⟨v2.heap.size, 0, none⟩ = some (.int .i64 x.e) := HSIW9.out.b2.cell 0
                     have t11 : W9.cell? ⟨v2.heap.size, 1, none⟩ = some (.int .i64 x.g) := HSIW9.out.b2.cell 1
                     have t12 : W9.cell? ⟨v2.heap.size, 2, none⟩ = some (.slice x.A x.n x.c) := HSIW9.out.b2.cell 2
                     have n0 : W9.cell? ⟨w.heap.size + 3, 0, none⟩ = some (.int .i64 0) := HSIW9.out.r.cell 0
                     have n1 : W9.cell? ⟨w.heap.size + 3, 1, none⟩ = some (.int .i64 0) := HSIW9.out.r.cell 1
                     have n2 : W9.cell? ⟨w.heap.size + 3, 2, none⟩ = some (.slice none 0 0) := HSIW9.out.r.cell 2
                     have m0 := HSIW9.out.r.frozen 0
                     have m1 := HSIW9.out.r.frozen 1
                     have m2 := HSIW9.out.r.frozen 2
                     rw [hW9] at t10 t11 t12 n0 n1 n2 m0 m1 m2
                     clear hne8 hk8 hmp hown8 hg8 hat8)
                  have hsn := slot_not (K := K) (n := n) (O := FO) (X := FX) (Y := FY) (fun a b c h1 h2 h3 h4 => by
        rw [HR1.out.opt] at h1
        rw [HR3.out.opt] at h3
        injection h1 with h1
        injection h3 with h3
        have h5 := h4.2
        rw [← h1, ← h3] at h5
        injection h5 with h5 h6
        exact of_decide_eq_false HP12.out.2.symm ⟨h5, h6⟩)
                  have hpk : pick FO FX FY = _ := pickG_4 (of_decide_eq_false HPL.out.1.symm) (of_decide_eq_false HPL.out.2.1.symm) (of_decide_eq_false HPL.out.2.2.symm)
                  rw [← hW9]
                  (try simp only [Exit.inBlock, Exit.then])
                  have hex := slot_exit HSIW9.out.r HM9.out HPW9.out (ItY.of_ok (HR2.out.ok.lowB HBW9.out) (Nat.le_refl _)) hrB hrw (.int .i64 x.e) (.int .i64 x.g) (.slice x.A x.n x.c)
                  refine bodyPost_ret (v := .tuple #[.agg #[.int .i64 x.e, .int .i64 x.g, .slice x.A x.n x.c], .bool true]) ?_ rfl ⟨x, true, rfl, (by rw [hsn.1, hpk]; exact HR2.out.opt), hex.1, Fr.of_ok HR2.out.ok, ?_, hex.2.2⟩
                  · rw [results_cell_tmp rfl]
                    go_simp
                  · rw [hsn.2, hpk]; simp only [if_true]; exact hex.2.1
                · have z00 : t3.cell? ⟨v1.heap.size, 0, none⟩ = some (.int .i64 o.e) := HSIt3.out.b1.cell 0
                  have z01 : t3.cell? ⟨v1.heap.size, 1, none⟩ = some (.int .i64 o.g) := HSIt3.out.b1.cell 1
                  have z02 : t3.cell? ⟨v1.heap.size, 2, none⟩ = some (.slice o.A o.n o.c) := HSIt3.out.b1.cell 2
                  have z10 : t3.cell? ⟨v2.heap.size, 0, none⟩ = some (.int .i64 x.e) := HSIt3.out.b2.cell 0
                  have z11 : t3.cell? ⟨v2.heap.size, 1, none⟩ = some (.int .i64 x.g) := HSIt3.out.b2.cell 1
                  have z12 : t3.cell? ⟨v2.heap.size, 2, none⟩ = some (.slice x.A x.n x.c) := HSIt3.out.b2.cell 2
                  have z20 : t3.cell? ⟨v3.heap.size, 0, none⟩ = some (.int .i64 y.e) := HSIt3.out.b3.cell 0
                  have z21 : t3.cell? ⟨v3.heap.size, 1, none⟩ = some (.int .i64 y.g) := HSIt3.out.b3.cell 1
                  have z22 : t3.cell? ⟨v3.heap.size, 2, none⟩ = some (.slice y.A y.n y.c) := HSIt3.out.b3.cell 2
                  have n0 : t3.cell? ⟨w.heap.size + 3, 0, none⟩ = some (.int .i64 0) := HSIt3.out.r.cell 0
                  have n1 : t3.cell? ⟨w.heap.size + 3, 1, none⟩ = some (.int .i64 0) := HSIt3.out.r.cell 1
                  have n2 : t3.cell? ⟨w.heap.size + 3, 2, none⟩ = some (.slice none 0 0) := HSIt3.out.r.cell 2
                  have m0 := HSIt3.out.r.frozen 0
                  have m1 := HSIt3.out.r.frozen 1
                  have m2 := HSIt3.out.r.frozen 2
                  go_wp2_with fail
                  have hsn := slot_not (K := K) (n := n) (O := FO) (X := FX) (Y := FY) (fun a b c h1 h2 h3 h4 => by
        rw [HR1.out.opt] at h1
        rw [HR3.out.opt] at h3
        injection h1 with h1
        injection h3 with h3
        have h5 := h4.2
        rw [← h1, ← h3] at h5
        injection h5 with h5 h6
        exact of_decide_eq_false HP12.out.2.symm ⟨h5, h6⟩)
                  have hpk : pick FO FX FY = _ := pickG_3 (of_decide_eq_false HPL.out.1.symm) (of_decide_eq_false HPL.out.2.1.symm) (of_decide_eq_true HPL.out.2.2.symm)
                  (try simp only [Exit.inBlock, Exit.then])
                  have hex := slot_exit HSIt3.out.r HSt3.out HPt3.out (ItY.of_ok (HR2.out.ok.lowB HBt3.out) (Nat.le_refl _)) hrB hrw (.int .i64 x.e) (.int .i64 x.g) (.slice x.A x.n x.c)
                  refine bodyPost_ret (v := .tuple #[.agg #[.int .i64 x.e, .int .i64 x.g, .slice x.A x.n x.c], .bool true]) ?_ rfl ⟨x, true, rfl, (by rw [hsn.1, hpk]; exact HR2.out.opt), hex.1, Fr.of_ok HR2.out.ok, ?_, hex.2.2⟩
                  · rw [results_cell_tmp rfl]
                    go_simp
                  · rw [hsn.2, hpk]; simp only [Bool.false_eq_true, if_false, List.append_nil]; exact hex.2.1
              · have z00 : t2.cell? ⟨v1.heap.size, 0, none⟩ = some (.int .i64 o.e) := HSIt2.out.b1.cell 0
                have z01 : t2.cell? ⟨v1.heap.size, 1, none⟩ = some (.int .i64 o.g) := HSIt2.out.b1.cell 1
                have z02 : t2.cell? ⟨v1.heap.size, 2, none⟩ = some (.slice o.A o.n o.c) := HSIt2.out.b1.cell 2
                have z10 : t2.cell? ⟨v2.heap.size, 0, none⟩ = some (.int .i64 x.e) := HSIt2.out.b2.cell 0
                have z11 : t2.cell? ⟨v2.heap.size, 1, none⟩ = some (.int .i64 x.g) := HSIt2.out.b2.cell 1
                have z12 : t2.cell? ⟨v2.heap.size, 2, none⟩ = some (.slice x.A x.n x.c) := HSIt2.out.b2.cell 2
                have z20 : t2.cell? ⟨v3.heap.size, 0, none⟩ = some (.int .i64 y.e) := HSIt2.out.b3.cell 0
                have z21 : t2.cell? ⟨v3.heap.size, 1, none⟩ = some (.int .i64 y.g) := HSIt2.out.b3.cell 1
                have z22 : t2.cell? ⟨v3.heap.size, 2, none⟩ = some (.slice y.A y.n y.c) := HSIt2.out.b3.cell 2
                have n0 : t2.cell? ⟨w.heap.size + 3, 0, none⟩ = some (.int .i64 0) := HSIt2.out.r.cell 0
                have n1 : t2.cell? ⟨w.heap.size + 3, 1, none⟩ = some (.int .i64 0) := HSIt2.out.r.cell 1
                have n2 : t2.cell? ⟨w.heap.size + 3, 2, none⟩ = some (.slice none 0 0) := HSIt2.out.r.cell 2
                have m0 := HSIt2.out.r.frozen 0
                have m1 := HSIt2.out.r.frozen 1
                have m2 := HSIt2.out.r.frozen 2
                go_wp2_with fail
                have hsn := slot_not (K := K) (n := n) (O := FO) (X := FX) (Y := FY) (fun a b c h1 h2 h3 h4 => by
        rw [HR1.out.opt] at h1
        rw [HR3.out.opt] at h3
        injection h1 with h1
        injection h3 with h3
        have h5 := h4.2
        rw [← h1, ← h3] at h5
        injection h5 with h5 h6
        exact of_decide_eq_false HP12.out.2.symm ⟨h5, h6⟩)
                have hpk : pick FO FX FY = _ := pickG_2 (of_decide_eq_false HPL.out.1.symm) (of_decide_eq_true HPL.out.2.1.symm)
                (try simp only [Exit.inBlock, Exit.then])
                have hex := slot_exit HSIt2.out.r HSt2.out HPt2.out (ItY.of_ok (HR3.out.ok.lowB HBt2.out) (Nat.le_refl _)) hrB hrw (.int .i64 y.e) (.int .i64 y.g) (.slice y.A y.n y.c)
                refine bodyPost_ret (v := .tuple #[.agg #[.int .i64 y.e, .int .i64 y.g, .slice y.A y.n y.c], .bool true]) ?_ rfl ⟨y, true, rfl, (by rw [hsn.1, hpk]; exact HR3.out.opt), hex.1, Fr.of_ok HR3.out.ok, ?_, hex.2.2⟩
                · rw [results_cell_tmp rfl]
                  go_simp
                · rw [hsn.2, hpk]; simp only [Bool.false_eq_true, if_false, List.append_nil]; exact hex.2.1
            · have z00 : t1.cell? ⟨v1.heap.size, 0, none⟩ = some (.int .i64 o.e) := HSIt1.out.b1.cell 0
              have z01 : t1.cell? ⟨v1.heap.size, 1, none⟩ = some (.int .i64 o.g) := HSIt1.out.b1.cell 1
              have z02 : t1.cell? ⟨v1.heap.size, 2, none⟩ = some (.slice o.A o.n o.c) := HSIt1.out.b1.cell 2
              have z10 : t1.cell? ⟨v2.heap.size, 0, none⟩ = some (.int .i64 x.e) := HSIt1.out.b2.cell 0
              have z11 : t1.cell? ⟨v2.heap.size, 1, none⟩ = some (.int .i64 x.g) := HSIt1.out.b2.cell 1
              have z12 : t1.cell? ⟨v2.heap.size, 2, none⟩ = some (.slice x.A x.n x.c) := HSIt1.out.b2.cell 2
              have z20 : t1.cell? ⟨v3.heap.size, 0, none⟩ = some (.int .i64 y.e) := HSIt1.out.b3.cell 0
              have z21 : t1.cell? ⟨v3.heap.size, 1, none⟩ = some (.int .i64 y.g) := HSIt1.out.b3.cell 1
              have z22 : t1.cell? ⟨v3.heap.size, 2, none⟩ = some (.slice y.A y.n y.c) := HSIt1.out.b3.cell 2
              have n0 : t1.cell? ⟨w.heap.size + 3, 0, none⟩ = some (.int .i64 0) := HSIt1.out.r.cell 0
              have n1 : t1.cell? ⟨w.heap.size + 3, 1, none⟩ = some (.int .i64 0) := HSIt1.out.r.cell 1
              have n2 : t1.cell? ⟨w.heap.size + 3, 2, none⟩ = some (.slice none 0 0) := HSIt1.out.r.cell 2
              have m0 := HSIt1.out.r.frozen 0
              have m1 := HSIt1.out.r.frozen 1
              have m2 := HSIt1.out.r.frozen 2
              go_wp2_with fail
              have hsn := slot_not (K := K) (n := n) (O := FO) (X := FX) (Y := FY) (fun a b c h1 h2 h3 h4 => by
        rw [HR1.out.opt] at h1
        rw [HR3.out.opt] at h3
        injection h1 with h1
        injection h3 with h3
        have h5 := h4.2
        rw [← h1, ← h3] at h5
        injection h5 with h5 h6
        exact of_decide_eq_false HP12.out.2.symm ⟨h5, h6⟩)
              have hpk : pick FO FX FY = _ := pickG_1 (of_decide_eq_true HPL.out.1.symm)
              (try simp only [Exit.inBlock, Exit.then])
              have hex := slot_exit HSIt1.out.r HSt1.out HPt1.out (ItY.of_ok (HR2.out.ok.lowB HBt1.out) (Nat.le_refl _)) hrB hrw (.int .i64 x.e) (.int .i64 x.g) (.slice x.A x.n x.c)
              refine bodyPost_ret (v := .tuple #[.agg #[.int .i64 x.e, .int .i64 x.g, .slice x.A x.n x.c], .bool true]) ?_ rfl ⟨x, true, rfl, (by rw [hsn.1, hpk]; exact HR2.out.opt), hex.1, Fr.of_ok HR2.out.ok, ?_, hex.2.2⟩
              · rw [results_cell_tmp rfl]
                go_simp
              · rw [hsn.2, hpk]; simp only [Bool.false_eq_true, if_false, List.append_nil]; exact hex.2.1
          · have q1 := of_decide_eq_true HP12.out.1.symm
            have q2 := of_decide_eq_true HP12.out.2.symm
            have HMC := Lib.hid (mcomps_any base m B K o x y L w3 HSw3.out hB hm (Nat.le_trans hbw HBw3.out.size) (HR1.out.ok.lowB HBw3.out) (HR2.out.ok.lowB HBw3.out) (HR3.out.ok.lowB HBw3.out) hK HLL.out (HLEN.out o (HR1.out.mem rfl) x (HR2.out.mem rfl) y (HR3.out.mem rfl)) (fun z hz => HSM.out z (by rcases hz with rfl | rfl | rfl; exact .inl (HR1.out.mem rfl); exact .inr (.inl (HR2.out.mem rfl)); exact .inr (.inr (HR3.out.mem rfl)))))
            have HEQ : Hid (slotF K FO FX FY = some (x.p.1, compsF K (o.cms.map Cm.p) (x.cms.map Cm.p) (y.cms.map Cm.p)) ∧ slotC n K FO FX FY = compsC n K (o.cms.map Cm.p) (x.cms.map Cm.p) (y.cms.map Cm.p)) := Lib.hid (by
              have e1 : FO = some o.p := HR1.out.opt
              have e2 : FX = some x.p := HR2.out.opt
              have e3 : FY = some y.p := HR3.out.opt
              rw [e1, e2, e3]
              have h : o.p.1 = x.p.1 ∧ o.p.1 = y.p.1 := ⟨by show (o.e, o.g) = (x.e, x.g); rw [q1.1, q1.2], by show (o.e, o.g) = (y.e, y.g); rw [q2.1, q2.2]⟩
              exact ⟨if_pos h, if_pos h⟩)
            have HXN : Hid (x.e = n) := Lib.hid (by
              have e2 : FX = some x.p := HR2.out.opt
              exact (findI_some (HFX.out.symm.trans e2)).2)
            clear q1 q2
            go_wp2_with fail
            rw [← hw3]
            (with_reducible refine HMC.out.mono ?_)
            rintro e w6 ⟨A6, n6, c6, l6, rfl, hcs6, hs6, hk6⟩
            have HPw6 : Hid (Kp base 73 m w w6) := Lib.hid (HPw3.out.trans hk6)
            have HSIw6 : Hid (SI (w.heap.size + 3) v1.heap.size v2.heap.size v3.heap.size w6 o x y) := Lib.hid (HSIw3.out.kx (Kx.of_kp hk6 HSw3.out hB hm) (by decide))
            have HI6 : Hid (ItY w6 B ⟨x.e, x.g, A6, n6, c6, l6⟩) := Lib.hid ⟨hcs6.out.1, HR2.out.ok.wf1, HR2.out.ok.wf2⟩
            have HCS := Lib.hid hcs6.out.2
            have HS6 := Lib.hid hs6
            clear hcs6 hs6 hk6
            have n0 : w6.cell? ⟨w.heap.size + 3, 0, none⟩ = some (.int .i64 0) := HSIw6.out.r.cell 0
            have n1 : w6.cell? ⟨w.heap.size + 3, 1, none⟩ = some (.int .i64 0) := HSIw6.out.r.cell 1
            have n2 : w6.cell? ⟨w.heap.size + 3, 2, none⟩ = some (.slice none 0 0) := HSIw6.out.r.cell 2
            have m0 := HSIw6.out.r.frozen 0
            have m1 := HSIw6.out.r.frozen 1
            have m2 := HSIw6.out.r.frozen 2
            go_wp2_with fail
            (try simp only [Exit.inBlock, Exit.then])
            have hex := slot_exit HSIw6.out.r HS6.out HPw6.out HI6.out hrB hrw (.int .i64 x.e) (.int .i64 x.g) (.slice A6 n6 c6)
            refine bodyPost_ret (v := .tuple #[.agg #[.int .i64 x.e, .int .i64 x.g, .slice A6 n6 c6], .bool true]) ?_ rfl ⟨⟨x.e, x.g, A6, n6, c6, l6⟩, true, rfl, ?_, hex.1, HCS.out.2.mono HX3s, ?_, hex.2.2⟩
            · rw [results_cell_tmp rfl]
              go_simp
            · rw [HEQ.out.1]
              show some ((x.e, x.g), _) = some ((x.e, x.g), l6.map Cm.p)
              rw [HCS.out.1]
            · rw [HEQ.out.2, ← HXN.out]; exact hex.2.1
end Go.Proofs.Ytnidcmhfbkdioaa
