/-
  The contracts of undo.between, New, Now, turn. Conditions: worlds that can be read, of bounded sizes; numbers that fit.
-/
import Derived.Test.YtnidcmhfbkdioaaVf
import Derived.Test.YtnidcmhfbkdioaaMc
import Derived.Test.YtnidcmhfbkdioaaMf
namespace Go.Proofs.Ytnidcmhfbkdioaa
open Go.RowKit
set_option maxRecDepth 100000

/-- A step of a history in memory: its name, the difference on, the difference back. -/
structure StM where
  nm : ByteArray
  oA : Option Addr
  on : Nat
  oc : Nat
  ob : List Nat
  bA : Option Addr
  bn : Nat
  bc : Nat
  bb : List Nat
def StM.cs (s : StM) : List Value := [.string s.nm, .slice s.oA s.on s.oc, .slice s.bA s.bn s.bc]
structure StY (w : World) (s : StM) : Prop where
  o : RdY w 0 5 1 s.oA s.on (bytesV s.ob)
  on : s.on = s.ob.length
  b : RdY w 0 5 1 s.bA s.bn (bytesV s.bb)
  bn : s.bn = s.bb.length
def encD (a b : Wv Kp2) : List Nat := packB (encB (FW a) (FW b))
def BetPost (w : World) (nm : ByteArray) (a b : Wv Kp2) (e : Ending) (w' : World) : Prop :=
  ∃ s : StM, e = .returned (.tuple #[.agg #[.string s.nm, .slice s.oA s.on s.oc, .slice s.bA s.bn s.bc], .int .i64 0]) ∧ Hid (StY w' s ∧ s.nm = nm ∧ s.ob = encD a b ∧ s.bb = encD b a) ∧ Below w.heap.size w w'

set_option maxHeartbeats 8000000 in
theorem between_any (nm : ByteArray) (x y : Wd) (B : Nat) (w : World) (hx : WdOk w B x) (hy : WdOk w B y) (hB : B ≤ w.heap.size) (gx : GoodW x.p) (gy : GoodW y.p) (hok : encOk (FW x.p) (FW y.p)) (hok2 : encOk (FW y.p) (FW x.p)) :
    Calls Try.prog 159 #[.string nm, .agg #[.slice x.kA x.kn x.kc, .slice x.gA x.gn x.gc, .slice x.iA x.im x.ic], .agg #[.slice y.kA y.kn y.kc, .slice y.gA y.gn y.gc, .slice y.iA y.im y.ic]] w (BetPost w nm x.p y.p) := by
  have HM12 := Lib.hid (fun (wz : World) (hb : Below w.heap.size w wz) => make_any x y B wz (hx.below (hb.mono hB)) (hy.below (hb.mono hB)) (Nat.le_trans hB hb.size) gx gy hok)
  have HM21 := Lib.hid (fun (wz : World) (hb : Below w.heap.size w wz) => make_any y x B wz (hy.below (hb.mono hB)) (hx.below (hb.mono hB)) (Nat.le_trans hB hb.size) gy gx hok2)
  obtain ⟨p1, hp1⟩ : ∃ p, p = x.p := ⟨_, rfl⟩
  obtain ⟨p2, hp2⟩ : ∃ p, p = y.p := ⟨_, rfl⟩
  rw [← hp1, ← hp2] at HM12 HM21 ⊢
  obtain ⟨kA1, kn1, kc1, ks1, gA1, gn1, gc1, gens1, iA1, im1, ic1, its1⟩ := x
  obtain ⟨kA2, kn2, kc2, ks2, gA2, gn2, gc2, gens2, iA2, im2, ic2, its2⟩ := y
  dsimp only at HM12 HM21 ⊢
  clear hx hy gx gy hok hok2 hp1 hp2
  obtain ⟨W0, hW0⟩ : ∃ W0, W0 = ((w.alloc (.cells #[.slice kA1 kn1 kc1, .slice gA1 gn1 gc1, .slice iA1 im1 ic1] 52)).alloc (.cells #[.slice kA2 kn2 kc2, .slice gA2 gn2 gc2, .slice iA2 im2 ic2] 52)).alloc (.cells #[.string ⟨#[]⟩, .slice none 0 0, .slice none 0 0] 265) := ⟨_, rfl⟩
  have hb0 : Below w.heap.size w W0 := by rw [hW0]; exact Below.al (Below.al (Below.al (Below.refl _ _) _) _) _
  have hs0 : W0.heap.size = w.heap.size + 3 := by rw [hW0]; simp
  have hx1 : Bk W0 w.heap.size 52 #[.slice kA1 kn1 kc1, .slice gA1 gn1 gc1, .slice iA1 im1 ic1] := by rw [hW0]; exact ((Bk.new _ _ _).alloc _).alloc _
  have hx2 : Bk W0 (w.heap.size + 1) 52 #[.slice kA2 kn2 kc2, .slice gA2 gn2 gc2, .slice iA2 im2 ic2] := by rw [hW0]; exact (Bk.two _ _ _ _).alloc _
  have HX3 : Hid (Bk W0 (w.heap.size + 2) 265 #[.string ⟨#[]⟩, .slice none 0 0, .slice none 0 0]) := Lib.hid (by rw [hW0]; exact Bk.three _ _ _ _ _)
  have HX1 := Lib.hid hx1
  have HX2 := Lib.hid hx2
  have HB0 := Lib.hid hb0
  have HSZ := Lib.hid hs0
  go_enter Try.func159, Try.ntmps159
  go_wp2_with fail
  rw [← hW0]
  clear hW0 hx1 hx2 hb0 hs0
  go_cut [8, 9] from 13 to 16 (fun pv qv wx => ∃ (h8 h9 : Nat), pv = .pointer (some ⟨h8, 0, none⟩) ∧ qv = .pointer (some ⟨h9, 0, none⟩) ∧ Hid (Bk wx h8 80 #[.int .i64 0, .slice kA1 kn1 kc1, .slice gA1 gn1 gc1, .slice iA1 im1 ic1, .slice none 0 0, .slice none 0 0, .slice none 0 0]) ∧ Hid (Bk wx h9 80 #[.int .i64 0, .slice kA2 kn2 kc2, .slice gA2 gn2 gc2, .slice iA2 im2 ic2, .slice none 0 0, .slice none 0 0, .slice none 0 0]) ∧ Hid (Below W0.heap.size W0 wx))
  case first =>
    have s0 : W0.drew.cell? ⟨w.heap.size, 0, none⟩ = some (.slice kA1 kn1 kc1) ∧ W0.drew.cell? ⟨w.heap.size, 1, none⟩ = some (.slice gA1 gn1 gc1) ∧ W0.drew.cell? ⟨w.heap.size, 2, none⟩ = some (.slice iA1 im1 ic1) ∧ W0.drew.cell? ⟨w.heap.size + 1, 0, none⟩ = some (.slice kA2 kn2 kc2) ∧ W0.drew.cell? ⟨w.heap.size + 1, 1, none⟩ = some (.slice gA2 gn2 gc2) ∧ W0.drew.cell? ⟨w.heap.size + 1, 2, none⟩ = some (.slice iA2 im2 ic2) := ⟨HX1.out.cell 0, HX1.out.cell 1, HX1.out.cell 2, HX2.out.cell 0, HX2.out.cell 1, HX2.out.cell 2⟩
    have hs1 : ∀ wx, Below W0.heap.size W0 wx → wx.cell? ⟨w.heap.size, 0, none⟩ = some (.slice kA1 kn1 kc1) ∧ wx.cell? ⟨w.heap.size, 1, none⟩ = some (.slice gA1 gn1 gc1) ∧ wx.cell? ⟨w.heap.size, 2, none⟩ = some (.slice iA1 im1 ic1) ∧ wx.cell? ⟨w.heap.size + 1, 0, none⟩ = some (.slice kA2 kn2 kc2) ∧ wx.cell? ⟨w.heap.size + 1, 1, none⟩ = some (.slice gA2 gn2 gc2) ∧ wx.cell? ⟨w.heap.size + 1, 2, none⟩ = some (.slice iA2 im2 ic2) := fun wx hb => ⟨(HX1.out.below hb HX1.out.lt).cell 0, (HX1.out.below hb HX1.out.lt).cell 1, (HX1.out.below hb HX1.out.lt).cell 2, (HX2.out.below hb HX2.out.lt).cell 0, (HX2.out.below hb HX2.out.lt).cell 1, (HX2.out.below hb HX2.out.lt).cell 2⟩
    obtain ⟨W2, hW2⟩ : ∃ W2, W2 = (W0.alloc (.cells #[.int .i64 0, .slice none 0 0, .slice none 0 0, .slice none 0 0, .slice none 0 0, .slice none 0 0, .slice none 0 0] 80)).alloc (.cells #[.int .i64 0, .slice none 0 0, .slice none 0 0, .slice none 0 0, .slice none 0 0, .slice none 0 0, .slice none 0 0] 80) := ⟨_, rfl⟩
    have z8 : Bk W2 W0.heap.size 80 #[.int .i64 0, .slice none 0 0, .slice none 0 0, .slice none 0 0, .slice none 0 0, .slice none 0 0, .slice none 0 0] := by rw [hW2]; exact (Bk.new _ _ _).alloc _
    have z9 : Bk W2 (W0.heap.size + 1) 80 #[.int .i64 0, .slice none 0 0, .slice none 0 0, .slice none 0 0, .slice none 0 0, .slice none 0 0, .slice none 0 0] := by rw [hW2]; exact Bk.two _ _ _ _
    have hb2 : Below W0.heap.size W0 W2 := by rw [hW2]; exact Below.al (Below.al (Below.refl _ _) _) _
    have HW2 := Lib.hid hW2
    clear hW2
    refine wp_region_E (S := fun wx => wx.cell? ⟨w.heap.size, 0, none⟩ = some (.slice kA1 kn1 kc1) ∧ wx.cell? ⟨w.heap.size, 1, none⟩ = some (.slice gA1 gn1 gc1) ∧ wx.cell? ⟨w.heap.size, 2, none⟩ = some (.slice iA1 im1 ic1) ∧ wx.cell? ⟨w.heap.size + 1, 0, none⟩ = some (.slice kA2 kn2 kc2) ∧ wx.cell? ⟨w.heap.size + 1, 1, none⟩ = some (.slice gA2 gn2 gc2) ∧ wx.cell? ⟨w.heap.size + 1, 2, none⟩ = some (.slice iA2 im2 ic2)) (last := 7) (by kernel_rfl) ?_
    refine wpAnyE_val (i := 0) (v := .agg #[.slice kA1 kn1 kc1, .slice gA1 gn1 gc1, .slice iA1 im1 ic1]) (d := some 13) rfl rfl (by kernel_rfl) (by kernel_rfl) (by kernel_rfl) (by kernel_rfl) (fun _ _ _ h => h) (Or.inl ⟨by rfl, fun w hS => by (obtain ⟨h0, h1, h2, h3, h4, h5⟩ := hS; go_simp)⟩) s0 ?_
    (try simp only [Act.put, List.setIfInBounds_toArray, List.set_cons_zero, List.set_cons_succ])
    refine wpAnyE_val (i := 1) (v := .agg #[.int .i64 0, .slice kA1 kn1 kc1, .slice gA1 gn1 gc1, .slice iA1 im1 ic1, .slice none 0 0, .slice none 0 0, .slice none 0 0]) (d := some 14) rfl rfl (by kernel_rfl) (by kernel_rfl) (by kernel_rfl) (by kernel_rfl) (fun _ _ _ h => h) (Or.inl ⟨by rfl, fun w hS => by (obtain ⟨h0, h1, h2, h3, h4, h5⟩ := hS; go_simp)⟩) s0 ?_
    (try simp only [Act.put, List.setIfInBounds_toArray, List.set_cons_zero, List.set_cons_succ])
    refine wpAnyE_val (i := 2) (v := .agg #[.slice kA2 kn2 kc2, .slice gA2 gn2 gc2, .slice iA2 im2 ic2]) (d := some 15) rfl rfl (by kernel_rfl) (by kernel_rfl) (by kernel_rfl) (by kernel_rfl) (fun _ _ _ h => h) (Or.inl ⟨by rfl, fun w hS => by (obtain ⟨h0, h1, h2, h3, h4, h5⟩ := hS; go_simp)⟩) s0 ?_
    (try simp only [Act.put, List.setIfInBounds_toArray, List.set_cons_zero, List.set_cons_succ])
    refine wpAnyE_val (i := 3) (v := .agg #[.int .i64 0, .slice kA2 kn2 kc2, .slice gA2 gn2 gc2, .slice iA2 im2 ic2, .slice none 0 0, .slice none 0 0, .slice none 0 0]) (d := some 16) rfl rfl (by kernel_rfl) (by kernel_rfl) (by kernel_rfl) (by kernel_rfl) (fun _ _ _ h => h) (Or.inl ⟨by rfl, fun w hS => by (obtain ⟨h0, h1, h2, h3, h4, h5⟩ := hS; go_simp)⟩) s0 ?_
    (try simp only [Act.put, List.setIfInBounds_toArray, List.set_cons_zero, List.set_cons_succ])
    refine wpAnyE_twoV (i := 4) (j := 5) rfl rfl (by kernel_rfl) rfl rfl ?_ ?_
    · go_simp
      refine And.intro (by first | exact s0 | exact hs1 _ (by repeat' first | exact Below.refl _ _ | assumption | refine Below.drew ?_ | refine Below.al ?_ _)) ?_
      (try simp only [Act.put, List.setIfInBounds_toArray, List.set_cons_zero, List.set_cons_succ])
      refine wpAnyE_one (i := 5) rfl (by kernel_rfl) rfl ?_
      go_simp
      rw [← HW2.out]
      refine And.intro (by first | exact s0 | exact hs1 _ hb2) ?_
      (try simp only [Act.put, List.setIfInBounds_toArray, List.set_cons_zero, List.set_cons_succ])
      refine wpAnyE_one (i := 6) rfl (by kernel_rfl) rfl ?_
      have c0 : W2.cell? ⟨W0.heap.size, 0, none⟩ = some (.int .i64 0) := z8.cell 0
      have f0 : W2.frozen? ⟨W0.heap.size, 0, none⟩ = false := z8.frozen 0
      have c1 : W2.cell? ⟨W0.heap.size, 1, none⟩ = some (.slice none 0 0) := z8.cell 1
      have f1 : W2.frozen? ⟨W0.heap.size, 1, none⟩ = false := z8.frozen 1
      have c2 : W2.cell? ⟨W0.heap.size, 2, none⟩ = some (.slice none 0 0) := z8.cell 2
      have f2 : W2.frozen? ⟨W0.heap.size, 2, none⟩ = false := z8.frozen 2
      have c3 : W2.cell? ⟨W0.heap.size, 3, none⟩ = some (.slice none 0 0) := z8.cell 3
      have f3 : W2.frozen? ⟨W0.heap.size, 3, none⟩ = false := z8.frozen 3
      have c4 : W2.cell? ⟨W0.heap.size, 4, none⟩ = some (.slice none 0 0) := z8.cell 4
      have f4 : W2.frozen? ⟨W0.heap.size, 4, none⟩ = false := z8.frozen 4
      have c5 : W2.cell? ⟨W0.heap.size, 5, none⟩ = some (.slice none 0 0) := z8.cell 5
      have f5 : W2.frozen? ⟨W0.heap.size, 5, none⟩ = false := z8.frozen 5
      have c6 : W2.cell? ⟨W0.heap.size, 6, none⟩ = some (.slice none 0 0) := z8.cell 6
      have f6 : W2.frozen? ⟨W0.heap.size, 6, none⟩ = false := z8.frozen 6
      go_simp
      obtain ⟨W3, hW3⟩ : ∃ W3, W3 = (((((((W2.setCell ⟨W0.heap.size, 0, none⟩ (.int .i64 0)).setCell ⟨W0.heap.size, 1, none⟩ (.slice kA1 kn1 kc1)).setCell ⟨W0.heap.size, 2, none⟩ (.slice gA1 gn1 gc1)).setCell ⟨W0.heap.size, 3, none⟩ (.slice iA1 im1 ic1)).setCell ⟨W0.heap.size, 4, none⟩ (.slice none 0 0)).setCell ⟨W0.heap.size, 5, none⟩ (.slice none 0 0)).setCell ⟨W0.heap.size, 6, none⟩ (.slice none 0 0)) := ⟨_, rfl⟩
      have u0 := z8.set_ 0 (Value.int .i64 0)
      have u1 := u0.set_ 1 (Value.slice kA1 kn1 kc1)
      have u2 := u1.set_ 2 (Value.slice gA1 gn1 gc1)
      have u3 := u2.set_ 3 (Value.slice iA1 im1 ic1)
      have u4 := u3.set_ 4 (Value.slice none 0 0)
      have u5 := u4.set_ 5 (Value.slice none 0 0)
      have u6 := u5.set_ 6 (Value.slice none 0 0)
      have y8 : Bk W3 (W0.heap.size) 80 #[.int .i64 0, .slice kA1 kn1 kc1, .slice gA1 gn1 gc1, .slice iA1 im1 ic1, .slice none 0 0, .slice none 0 0, .slice none 0 0] := by rw [hW3]; exact u6
      have y9 : Bk W3 (W0.heap.size + 1) 80 #[.int .i64 0, .slice none 0 0, .slice none 0 0, .slice none 0 0, .slice none 0 0, .slice none 0 0, .slice none 0 0] := by rw [hW3]; exact (((((((z9.far (p := ⟨W0.heap.size, 0, none⟩) (by show W0.heap.size + 1 ≠ W0.heap.size; omega) (Value.int .i64 0)).far (p := ⟨W0.heap.size, 1, none⟩) (by show W0.heap.size + 1 ≠ W0.heap.size; omega) (Value.slice kA1 kn1 kc1)).far (p := ⟨W0.heap.size, 2, none⟩) (by show W0.heap.size + 1 ≠ W0.heap.size; omega) (Value.slice gA1 gn1 gc1)).far (p := ⟨W0.heap.size, 3, none⟩) (by show W0.heap.size + 1 ≠ W0.heap.size; omega) (Value.slice iA1 im1 ic1)).far (p := ⟨W0.heap.size, 4, none⟩) (by show W0.heap.size + 1 ≠ W0.heap.size; omega) (Value.slice none 0 0)).far (p := ⟨W0.heap.size, 5, none⟩) (by show W0.heap.size + 1 ≠ W0.heap.size; omega) (Value.slice none 0 0)).far (p := ⟨W0.heap.size, 6, none⟩) (by show W0.heap.size + 1 ≠ W0.heap.size; omega) (Value.slice none 0 0))
      have hb3 : Below W0.heap.size W0 W3 := by rw [hW3]; exact (((((((hb2.setCell (p := ⟨W0.heap.size, 0, none⟩) (by show W0.heap.size ≤ W0.heap.size; omega) (Value.int .i64 0)).setCell (p := ⟨W0.heap.size, 1, none⟩) (by show W0.heap.size ≤ W0.heap.size; omega) (Value.slice kA1 kn1 kc1)).setCell (p := ⟨W0.heap.size, 2, none⟩) (by show W0.heap.size ≤ W0.heap.size; omega) (Value.slice gA1 gn1 gc1)).setCell (p := ⟨W0.heap.size, 3, none⟩) (by show W0.heap.size ≤ W0.heap.size; omega) (Value.slice iA1 im1 ic1)).setCell (p := ⟨W0.heap.size, 4, none⟩) (by show W0.heap.size ≤ W0.heap.size; omega) (Value.slice none 0 0)).setCell (p := ⟨W0.heap.size, 5, none⟩) (by show W0.heap.size ≤ W0.heap.size; omega) (Value.slice none 0 0)).setCell (p := ⟨W0.heap.size, 6, none⟩) (by show W0.heap.size ≤ W0.heap.size; omega) (Value.slice none 0 0))
      have hs3 := hs1 W3 hb3
      rw [← hW3]
      refine And.intro (by first | exact hs3 | exact s0 | (refine ⟨(hs1 _ ?_).1, (hs1 _ ?_).2.1, (hs1 _ ?_).2.2.1, (hs1 _ ?_).2.2.2.1, (hs1 _ ?_).2.2.2.2.1, (hs1 _ ?_).2.2.2.2.2⟩ <;> (repeat' first | exact hb2 | exact hb3 | refine Below.setCell ?_ (by dsimp only; omega) _))) ?_
      clear hW3 u0 u1 u2 u3 u4 u5 u6
      (try simp only [Act.put, List.setIfInBounds_toArray, List.set_cons_zero, List.set_cons_succ])
      refine wpAnyE_one (i := 7) rfl (by kernel_rfl) rfl ?_
      have e0 : W3.cell? ⟨W0.heap.size + 1, 0, none⟩ = some (.int .i64 0) := y9.cell 0
      have g0 : W3.frozen? ⟨W0.heap.size + 1, 0, none⟩ = false := y9.frozen 0
      have e1 : W3.cell? ⟨W0.heap.size + 1, 1, none⟩ = some (.slice none 0 0) := y9.cell 1
      have g1 : W3.frozen? ⟨W0.heap.size + 1, 1, none⟩ = false := y9.frozen 1
      have e2 : W3.cell? ⟨W0.heap.size + 1, 2, none⟩ = some (.slice none 0 0) := y9.cell 2
      have g2 : W3.frozen? ⟨W0.heap.size + 1, 2, none⟩ = false := y9.frozen 2
      have e3 : W3.cell? ⟨W0.heap.size + 1, 3, none⟩ = some (.slice none 0 0) := y9.cell 3
      have g3 : W3.frozen? ⟨W0.heap.size + 1, 3, none⟩ = false := y9.frozen 3
      have e4 : W3.cell? ⟨W0.heap.size + 1, 4, none⟩ = some (.slice none 0 0) := y9.cell 4
      have g4 : W3.frozen? ⟨W0.heap.size + 1, 4, none⟩ = false := y9.frozen 4
      have e5 : W3.cell? ⟨W0.heap.size + 1, 5, none⟩ = some (.slice none 0 0) := y9.cell 5
      have g5 : W3.frozen? ⟨W0.heap.size + 1, 5, none⟩ = false := y9.frozen 5
      have e6 : W3.cell? ⟨W0.heap.size + 1, 6, none⟩ = some (.slice none 0 0) := y9.cell 6
      have g6 : W3.frozen? ⟨W0.heap.size + 1, 6, none⟩ = false := y9.frozen 6
      go_simp
      obtain ⟨W4, hW4⟩ : ∃ W4, W4 = (((((((W3.setCell ⟨W0.heap.size + 1, 0, none⟩ (.int .i64 0)).setCell ⟨W0.heap.size + 1, 1, none⟩ (.slice kA2 kn2 kc2)).setCell ⟨W0.heap.size + 1, 2, none⟩ (.slice gA2 gn2 gc2)).setCell ⟨W0.heap.size + 1, 3, none⟩ (.slice iA2 im2 ic2)).setCell ⟨W0.heap.size + 1, 4, none⟩ (.slice none 0 0)).setCell ⟨W0.heap.size + 1, 5, none⟩ (.slice none 0 0)).setCell ⟨W0.heap.size + 1, 6, none⟩ (.slice none 0 0)) := ⟨_, rfl⟩
      have u0 := y9.set_ 0 (Value.int .i64 0)
      have u1 := u0.set_ 1 (Value.slice kA2 kn2 kc2)
      have u2 := u1.set_ 2 (Value.slice gA2 gn2 gc2)
      have u3 := u2.set_ 3 (Value.slice iA2 im2 ic2)
      have u4 := u3.set_ 4 (Value.slice none 0 0)
      have u5 := u4.set_ 5 (Value.slice none 0 0)
      have u6 := u5.set_ 6 (Value.slice none 0 0)
      have x8 : Bk W4 (W0.heap.size) 80 #[.int .i64 0, .slice kA1 kn1 kc1, .slice gA1 gn1 gc1, .slice iA1 im1 ic1, .slice none 0 0, .slice none 0 0, .slice none 0 0] := by rw [hW4]; exact (((((((y8.far (p := ⟨W0.heap.size + 1, 0, none⟩) (by show W0.heap.size ≠ W0.heap.size + 1; omega) (Value.int .i64 0)).far (p := ⟨W0.heap.size + 1, 1, none⟩) (by show W0.heap.size ≠ W0.heap.size + 1; omega) (Value.slice kA2 kn2 kc2)).far (p := ⟨W0.heap.size + 1, 2, none⟩) (by show W0.heap.size ≠ W0.heap.size + 1; omega) (Value.slice gA2 gn2 gc2)).far (p := ⟨W0.heap.size + 1, 3, none⟩) (by show W0.heap.size ≠ W0.heap.size + 1; omega) (Value.slice iA2 im2 ic2)).far (p := ⟨W0.heap.size + 1, 4, none⟩) (by show W0.heap.size ≠ W0.heap.size + 1; omega) (Value.slice none 0 0)).far (p := ⟨W0.heap.size + 1, 5, none⟩) (by show W0.heap.size ≠ W0.heap.size + 1; omega) (Value.slice none 0 0)).far (p := ⟨W0.heap.size + 1, 6, none⟩) (by show W0.heap.size ≠ W0.heap.size + 1; omega) (Value.slice none 0 0))
      have x9 : Bk W4 (W0.heap.size + 1) 80 #[.int .i64 0, .slice kA2 kn2 kc2, .slice gA2 gn2 gc2, .slice iA2 im2 ic2, .slice none 0 0, .slice none 0 0, .slice none 0 0] := by rw [hW4]; exact u6
      have hb4 : Below W0.heap.size W0 W4 := by rw [hW4]; exact (((((((hb3.setCell (p := ⟨W0.heap.size + 1, 0, none⟩) (by show W0.heap.size ≤ W0.heap.size + 1; omega) (Value.int .i64 0)).setCell (p := ⟨W0.heap.size + 1, 1, none⟩) (by show W0.heap.size ≤ W0.heap.size + 1; omega) (Value.slice kA2 kn2 kc2)).setCell (p := ⟨W0.heap.size + 1, 2, none⟩) (by show W0.heap.size ≤ W0.heap.size + 1; omega) (Value.slice gA2 gn2 gc2)).setCell (p := ⟨W0.heap.size + 1, 3, none⟩) (by show W0.heap.size ≤ W0.heap.size + 1; omega) (Value.slice iA2 im2 ic2)).setCell (p := ⟨W0.heap.size + 1, 4, none⟩) (by show W0.heap.size ≤ W0.heap.size + 1; omega) (Value.slice none 0 0)).setCell (p := ⟨W0.heap.size + 1, 5, none⟩) (by show W0.heap.size ≤ W0.heap.size + 1; omega) (Value.slice none 0 0)).setCell (p := ⟨W0.heap.size + 1, 6, none⟩) (by show W0.heap.size ≤ W0.heap.size + 1; omega) (Value.slice none 0 0))
      rw [← hW4]
      clear hW4 u0 u1 u2 u3 u4 u5 u6
      refine wpAnyE_done (by kernel_rfl) ?_ _
      go_wp2_with fail
      go_meet
      case rel => exact ⟨W0.heap.size, W0.heap.size + 1, rfl, rfl, Lib.hid (Bk.drew x8), Lib.hid (Bk.drew x9), Lib.hid hb4.drew⟩
    · go_simp
      refine And.intro (by first | exact s0 | exact hs1 _ (by repeat' first | exact Below.refl _ _ | assumption | refine Below.drew ?_ | refine Below.al ?_ _)) ?_
      (try simp only [Act.put, List.setIfInBounds_toArray, List.set_cons_zero, List.set_cons_succ])
      refine wpAnyE_one (i := 4) rfl (by kernel_rfl) rfl ?_
      go_simp
      rw [← HW2.out]
      refine And.intro (by first | exact s0 | exact hs1 _ hb2) ?_
      (try simp only [Act.put, List.setIfInBounds_toArray, List.set_cons_zero, List.set_cons_succ])
      refine wpAnyE_one (i := 6) rfl (by kernel_rfl) rfl ?_
      have c0 : W2.cell? ⟨W0.heap.size + 1, 0, none⟩ = some (.int .i64 0) := z9.cell 0
      have f0 : W2.frozen? ⟨W0.heap.size + 1, 0, none⟩ = false := z9.frozen 0
      have c1 : W2.cell? ⟨W0.heap.size + 1, 1, none⟩ = some (.slice none 0 0) := z9.cell 1
      have f1 : W2.frozen? ⟨W0.heap.size + 1, 1, none⟩ = false := z9.frozen 1
      have c2 : W2.cell? ⟨W0.heap.size + 1, 2, none⟩ = some (.slice none 0 0) := z9.cell 2
      have f2 : W2.frozen? ⟨W0.heap.size + 1, 2, none⟩ = false := z9.frozen 2
      have c3 : W2.cell? ⟨W0.heap.size + 1, 3, none⟩ = some (.slice none 0 0) := z9.cell 3
      have f3 : W2.frozen? ⟨W0.heap.size + 1, 3, none⟩ = false := z9.frozen 3
      have c4 : W2.cell? ⟨W0.heap.size + 1, 4, none⟩ = some (.slice none 0 0) := z9.cell 4
      have f4 : W2.frozen? ⟨W0.heap.size + 1, 4, none⟩ = false := z9.frozen 4
      have c5 : W2.cell? ⟨W0.heap.size + 1, 5, none⟩ = some (.slice none 0 0) := z9.cell 5
      have f5 : W2.frozen? ⟨W0.heap.size + 1, 5, none⟩ = false := z9.frozen 5
      have c6 : W2.cell? ⟨W0.heap.size + 1, 6, none⟩ = some (.slice none 0 0) := z9.cell 6
      have f6 : W2.frozen? ⟨W0.heap.size + 1, 6, none⟩ = false := z9.frozen 6
      go_simp
      obtain ⟨W3, hW3⟩ : ∃ W3, W3 = (((((((W2.setCell ⟨W0.heap.size + 1, 0, none⟩ (.int .i64 0)).setCell ⟨W0.heap.size + 1, 1, none⟩ (.slice kA1 kn1 kc1)).setCell ⟨W0.heap.size + 1, 2, none⟩ (.slice gA1 gn1 gc1)).setCell ⟨W0.heap.size + 1, 3, none⟩ (.slice iA1 im1 ic1)).setCell ⟨W0.heap.size + 1, 4, none⟩ (.slice none 0 0)).setCell ⟨W0.heap.size + 1, 5, none⟩ (.slice none 0 0)).setCell ⟨W0.heap.size + 1, 6, none⟩ (.slice none 0 0)) := ⟨_, rfl⟩
      have u0 := z9.set_ 0 (Value.int .i64 0)
      have u1 := u0.set_ 1 (Value.slice kA1 kn1 kc1)
      have u2 := u1.set_ 2 (Value.slice gA1 gn1 gc1)
      have u3 := u2.set_ 3 (Value.slice iA1 im1 ic1)
      have u4 := u3.set_ 4 (Value.slice none 0 0)
      have u5 := u4.set_ 5 (Value.slice none 0 0)
      have u6 := u5.set_ 6 (Value.slice none 0 0)
      have y8 : Bk W3 (W0.heap.size + 1) 80 #[.int .i64 0, .slice kA1 kn1 kc1, .slice gA1 gn1 gc1, .slice iA1 im1 ic1, .slice none 0 0, .slice none 0 0, .slice none 0 0] := by rw [hW3]; exact u6
      have y9 : Bk W3 (W0.heap.size) 80 #[.int .i64 0, .slice none 0 0, .slice none 0 0, .slice none 0 0, .slice none 0 0, .slice none 0 0, .slice none 0 0] := by rw [hW3]; exact (((((((z8.far (p := ⟨W0.heap.size + 1, 0, none⟩) (by show W0.heap.size ≠ W0.heap.size + 1; omega) (Value.int .i64 0)).far (p := ⟨W0.heap.size + 1, 1, none⟩) (by show W0.heap.size ≠ W0.heap.size + 1; omega) (Value.slice kA1 kn1 kc1)).far (p := ⟨W0.heap.size + 1, 2, none⟩) (by show W0.heap.size ≠ W0.heap.size + 1; omega) (Value.slice gA1 gn1 gc1)).far (p := ⟨W0.heap.size + 1, 3, none⟩) (by show W0.heap.size ≠ W0.heap.size + 1; omega) (Value.slice iA1 im1 ic1)).far (p := ⟨W0.heap.size + 1, 4, none⟩) (by show W0.heap.size ≠ W0.heap.size + 1; omega) (Value.slice none 0 0)).far (p := ⟨W0.heap.size + 1, 5, none⟩) (by show W0.heap.size ≠ W0.heap.size + 1; omega) (Value.slice none 0 0)).far (p := ⟨W0.heap.size + 1, 6, none⟩) (by show W0.heap.size ≠ W0.heap.size + 1; omega) (Value.slice none 0 0))
      have hb3 : Below W0.heap.size W0 W3 := by rw [hW3]; exact (((((((hb2.setCell (p := ⟨W0.heap.size + 1, 0, none⟩) (by show W0.heap.size ≤ W0.heap.size + 1; omega) (Value.int .i64 0)).setCell (p := ⟨W0.heap.size + 1, 1, none⟩) (by show W0.heap.size ≤ W0.heap.size + 1; omega) (Value.slice kA1 kn1 kc1)).setCell (p := ⟨W0.heap.size + 1, 2, none⟩) (by show W0.heap.size ≤ W0.heap.size + 1; omega) (Value.slice gA1 gn1 gc1)).setCell (p := ⟨W0.heap.size + 1, 3, none⟩) (by show W0.heap.size ≤ W0.heap.size + 1; omega) (Value.slice iA1 im1 ic1)).setCell (p := ⟨W0.heap.size + 1, 4, none⟩) (by show W0.heap.size ≤ W0.heap.size + 1; omega) (Value.slice none 0 0)).setCell (p := ⟨W0.heap.size + 1, 5, none⟩) (by show W0.heap.size ≤ W0.heap.size + 1; omega) (Value.slice none 0 0)).setCell (p := ⟨W0.heap.size + 1, 6, none⟩) (by show W0.heap.size ≤ W0.heap.size + 1; omega) (Value.slice none 0 0))
      have hs3 := hs1 W3 hb3
      rw [← hW3]
      refine And.intro (by first | exact hs3 | exact s0 | (refine ⟨(hs1 _ ?_).1, (hs1 _ ?_).2.1, (hs1 _ ?_).2.2.1, (hs1 _ ?_).2.2.2.1, (hs1 _ ?_).2.2.2.2.1, (hs1 _ ?_).2.2.2.2.2⟩ <;> (repeat' first | exact hb2 | exact hb3 | refine Below.setCell ?_ (by dsimp only; omega) _))) ?_
      clear hW3 u0 u1 u2 u3 u4 u5 u6
      (try simp only [Act.put, List.setIfInBounds_toArray, List.set_cons_zero, List.set_cons_succ])
      refine wpAnyE_one (i := 7) rfl (by kernel_rfl) rfl ?_
      have e0 : W3.cell? ⟨W0.heap.size, 0, none⟩ = some (.int .i64 0) := y9.cell 0
      have g0 : W3.frozen? ⟨W0.heap.size, 0, none⟩ = false := y9.frozen 0
      have e1 : W3.cell? ⟨W0.heap.size, 1, none⟩ = some (.slice none 0 0) := y9.cell 1
      have g1 : W3.frozen? ⟨W0.heap.size, 1, none⟩ = false := y9.frozen 1
      have e2 : W3.cell? ⟨W0.heap.size, 2, none⟩ = some (.slice none 0 0) := y9.cell 2
      have g2 : W3.frozen? ⟨W0.heap.size, 2, none⟩ = false := y9.frozen 2
      have e3 : W3.cell? ⟨W0.heap.size, 3, none⟩ = some (.slice none 0 0) := y9.cell 3
      have g3 : W3.frozen? ⟨W0.heap.size, 3, none⟩ = false := y9.frozen 3
      have e4 : W3.cell? ⟨W0.heap.size, 4, none⟩ = some (.slice none 0 0) := y9.cell 4
      have g4 : W3.frozen? ⟨W0.heap.size, 4, none⟩ = false := y9.frozen 4
      have e5 : W3.cell? ⟨W0.heap.size, 5, none⟩ = some (.slice none 0 0) := y9.cell 5
      have g5 : W3.frozen? ⟨W0.heap.size, 5, none⟩ = false := y9.frozen 5
      have e6 : W3.cell? ⟨W0.heap.size, 6, none⟩ = some (.slice none 0 0) := y9.cell 6
      have g6 : W3.frozen? ⟨W0.heap.size, 6, none⟩ = false := y9.frozen 6
      go_simp
      obtain ⟨W4, hW4⟩ : ∃ W4, W4 = (((((((W3.setCell ⟨W0.heap.size, 0, none⟩ (.int .i64 0)).setCell ⟨W0.heap.size, 1, none⟩ (.slice kA2 kn2 kc2)).setCell ⟨W0.heap.size, 2, none⟩ (.slice gA2 gn2 gc2)).setCell ⟨W0.heap.size, 3, none⟩ (.slice iA2 im2 ic2)).setCell ⟨W0.heap.size, 4, none⟩ (.slice none 0 0)).setCell ⟨W0.heap.size, 5, none⟩ (.slice none 0 0)).setCell ⟨W0.heap.size, 6, none⟩ (.slice none 0 0)) := ⟨_, rfl⟩
      have u0 := y9.set_ 0 (Value.int .i64 0)
      have u1 := u0.set_ 1 (Value.slice kA2 kn2 kc2)
      have u2 := u1.set_ 2 (Value.slice gA2 gn2 gc2)
      have u3 := u2.set_ 3 (Value.slice iA2 im2 ic2)
      have u4 := u3.set_ 4 (Value.slice none 0 0)
      have u5 := u4.set_ 5 (Value.slice none 0 0)
      have u6 := u5.set_ 6 (Value.slice none 0 0)
      have x8 : Bk W4 (W0.heap.size + 1) 80 #[.int .i64 0, .slice kA1 kn1 kc1, .slice gA1 gn1 gc1, .slice iA1 im1 ic1, .slice none 0 0, .slice none 0 0, .slice none 0 0] := by rw [hW4]; exact (((((((y8.far (p := ⟨W0.heap.size, 0, none⟩) (by show W0.heap.size + 1 ≠ W0.heap.size; omega) (Value.int .i64 0)).far (p := ⟨W0.heap.size, 1, none⟩) (by show W0.heap.size + 1 ≠ W0.heap.size; omega) (Value.slice kA2 kn2 kc2)).far (p := ⟨W0.heap.size, 2, none⟩) (by show W0.heap.size + 1 ≠ W0.heap.size; omega) (Value.slice gA2 gn2 gc2)).far (p := ⟨W0.heap.size, 3, none⟩) (by show W0.heap.size + 1 ≠ W0.heap.size; omega) (Value.slice iA2 im2 ic2)).far (p := ⟨W0.heap.size, 4, none⟩) (by show W0.heap.size + 1 ≠ W0.heap.size; omega) (Value.slice none 0 0)).far (p := ⟨W0.heap.size, 5, none⟩) (by show W0.heap.size + 1 ≠ W0.heap.size; omega) (Value.slice none 0 0)).far (p := ⟨W0.heap.size, 6, none⟩) (by show W0.heap.size + 1 ≠ W0.heap.size; omega) (Value.slice none 0 0))
      have x9 : Bk W4 (W0.heap.size) 80 #[.int .i64 0, .slice kA2 kn2 kc2, .slice gA2 gn2 gc2, .slice iA2 im2 ic2, .slice none 0 0, .slice none 0 0, .slice none 0 0] := by rw [hW4]; exact u6
      have hb4 : Below W0.heap.size W0 W4 := by rw [hW4]; exact (((((((hb3.setCell (p := ⟨W0.heap.size, 0, none⟩) (by show W0.heap.size ≤ W0.heap.size; omega) (Value.int .i64 0)).setCell (p := ⟨W0.heap.size, 1, none⟩) (by show W0.heap.size ≤ W0.heap.size; omega) (Value.slice kA2 kn2 kc2)).setCell (p := ⟨W0.heap.size, 2, none⟩) (by show W0.heap.size ≤ W0.heap.size; omega) (Value.slice gA2 gn2 gc2)).setCell (p := ⟨W0.heap.size, 3, none⟩) (by show W0.heap.size ≤ W0.heap.size; omega) (Value.slice iA2 im2 ic2)).setCell (p := ⟨W0.heap.size, 4, none⟩) (by show W0.heap.size ≤ W0.heap.size; omega) (Value.slice none 0 0)).setCell (p := ⟨W0.heap.size, 5, none⟩) (by show W0.heap.size ≤ W0.heap.size; omega) (Value.slice none 0 0)).setCell (p := ⟨W0.heap.size, 6, none⟩) (by show W0.heap.size ≤ W0.heap.size; omega) (Value.slice none 0 0))
      rw [← hW4]
      clear hW4 u0 u1 u2 u3 u4 u5 u6
      refine wpAnyE_done (by kernel_rfl) ?_ _
      go_wp2_with fail
      go_meet
      case rel => exact ⟨W0.heap.size + 1, W0.heap.size, rfl, rfl, Lib.hid (Bk.drew x8), Lib.hid (Bk.drew x9), Lib.hid hb4.drew⟩
  case rest =>
    obtain ⟨h8, h9, rfl, rfl, HX8, HX9, HBc⟩ := hcut
    have a0 : wc.cell? ⟨h8, 0, none⟩ = some (.int .i64 0) := HX8.out.cell 0
    have b0 : wc.cell? ⟨h9, 0, none⟩ = some (.int .i64 0) := HX9.out.cell 0
    have a1 : wc.cell? ⟨h8, 1, none⟩ = some (.slice kA1 kn1 kc1) := HX8.out.cell 1
    have b1 : wc.cell? ⟨h9, 1, none⟩ = some (.slice kA2 kn2 kc2) := HX9.out.cell 1
    have a2 : wc.cell? ⟨h8, 2, none⟩ = some (.slice gA1 gn1 gc1) := HX8.out.cell 2
    have b2 : wc.cell? ⟨h9, 2, none⟩ = some (.slice gA2 gn2 gc2) := HX9.out.cell 2
    have a3 : wc.cell? ⟨h8, 3, none⟩ = some (.slice iA1 im1 ic1) := HX8.out.cell 3
    have b3 : wc.cell? ⟨h9, 3, none⟩ = some (.slice iA2 im2 ic2) := HX9.out.cell 3
    have a4 : wc.cell? ⟨h8, 4, none⟩ = some (.slice none 0 0) := HX8.out.cell 4
    have b4 : wc.cell? ⟨h9, 4, none⟩ = some (.slice none 0 0) := HX9.out.cell 4
    have a5 : wc.cell? ⟨h8, 5, none⟩ = some (.slice none 0 0) := HX8.out.cell 5
    have b5 : wc.cell? ⟨h9, 5, none⟩ = some (.slice none 0 0) := HX9.out.cell 5
    have a6 : wc.cell? ⟨h8, 6, none⟩ = some (.slice none 0 0) := HX8.out.cell 6
    have b6 : wc.cell? ⟨h9, 6, none⟩ = some (.slice none 0 0) := HX9.out.cell 6
    have hbw : Below w.heap.size w wc := HB0.out.trans (HBc.out.mono HB0.out.size)
    have HM1 := Lib.hid (HM12.out wc hbw)
    have HBW := Lib.hid hbw
    clear hbw HM12
    go_wp2_with fail
    with_reducible refine (HM1.out).mono ?_
    clear HM1
    rintro e w1 ⟨A1, c1, rfl, hown1, hb1⟩
    have HO1 := Lib.hid hown1
    have HB1 := Lib.hid hb1
    have hz1 : w.heap.size ≤ wc.heap.size := HBW.out.size
    have hz2 : wc.heap.size ≤ w1.heap.size := hb1.size
    have y8 := HX8.out.below hb1 HX8.out.lt
    have y9 := HX9.out.below hb1 HX9.out.lt
    have hbw1 : Below w.heap.size w w1 := HBW.out.trans (hb1.mono hz1)
    have HM2 := Lib.hid (HM21.out w1 hbw1)
    have HBW1 := Lib.hid hbw1
    have d0 : w1.cell? ⟨h8, 0, none⟩ = some (.int .i64 0) := y8.cell 0
    have e0 : w1.cell? ⟨h9, 0, none⟩ = some (.int .i64 0) := y9.cell 0
    have d1 : w1.cell? ⟨h8, 1, none⟩ = some (.slice kA1 kn1 kc1) := y8.cell 1
    have e1 : w1.cell? ⟨h9, 1, none⟩ = some (.slice kA2 kn2 kc2) := y9.cell 1
    have d2 : w1.cell? ⟨h8, 2, none⟩ = some (.slice gA1 gn1 gc1) := y8.cell 2
    have e2 : w1.cell? ⟨h9, 2, none⟩ = some (.slice gA2 gn2 gc2) := y9.cell 2
    have d3 : w1.cell? ⟨h8, 3, none⟩ = some (.slice iA1 im1 ic1) := y8.cell 3
    have e3 : w1.cell? ⟨h9, 3, none⟩ = some (.slice iA2 im2 ic2) := y9.cell 3
    have d4 : w1.cell? ⟨h8, 4, none⟩ = some (.slice none 0 0) := y8.cell 4
    have e4 : w1.cell? ⟨h9, 4, none⟩ = some (.slice none 0 0) := y9.cell 4
    have d5 : w1.cell? ⟨h8, 5, none⟩ = some (.slice none 0 0) := y8.cell 5
    have e5 : w1.cell? ⟨h9, 5, none⟩ = some (.slice none 0 0) := y9.cell 5
    have d6 : w1.cell? ⟨h8, 6, none⟩ = some (.slice none 0 0) := y8.cell 6
    have e6 : w1.cell? ⟨h9, 6, none⟩ = some (.slice none 0 0) := y9.cell 6
    clear hown1 hb1 y8 y9 hbw1 HM21
    go_wp2_with fail
    with_reducible refine (HM2.out).mono ?_
    clear HM2
    rintro e w2 ⟨A2, c2, rfl, hown2, hb2⟩
    have hz3 : w1.heap.size ≤ w2.heap.size := hb2.size
    have hz0 : W0.heap.size ≤ wc.heap.size := HBc.out.size
    have hx := (((HX3.out.below HBc.out HX3.out.lt).below HB1.out (by have := HX3.out.lt; omega)).below hb2 (by have := HX3.out.lt; omega))
    have HX := Lib.hid hx
    have m0 : w2.cell? ⟨w.heap.size + 2, 0, none⟩ = some (.string ⟨#[]⟩) := hx.cell 0
    have m1 : w2.cell? ⟨w.heap.size + 2, 1, none⟩ = some (.slice none 0 0) := hx.cell 1
    have m2 : w2.cell? ⟨w.heap.size + 2, 2, none⟩ = some (.slice none 0 0) := hx.cell 2
    have f0 := hx.frozen 0
    have f1 := hx.frozen 1
    have f2 := hx.frozen 2
    have HO2 := Lib.hid hown2
    have HB2 := Lib.hid hb2
    clear hx hown2 hb2
    go_wp2_with fail
    (try simp only [Exit.inBlock, Exit.then])
    have z1 := HX.out.set_ 0 (Value.string nm)
    have z2 := z1.set_ 1 (Value.slice A1 (packB (encB (FW p1) (FW p2))).length c1)
    have hK0 := (((Kx.refl (B := 0) (F := [265])).set HX.out (Nat.zero_le _) (by simp) 0 (Value.string nm)).set z1 (Nat.zero_le _) (by simp) 1 (Value.slice A1 (packB (encB (FW p1) (FW p2))).length c1)).set z2 (Nat.zero_le _) (by simp) 2 (Value.slice A2 (packB (encB (FW p2) (FW p1))).length c2)
    have hq : ∀ i : Nat, w.heap.size ≤ (⟨w.heap.size + 2, i, none⟩ : Addr).block := fun i => by show w.heap.size ≤ w.heap.size + 2; omega
    refine bodyPost_ret (v := .tuple #[.agg #[.string nm, .slice A1 (packB (encB (FW p1) (FW p2))).length c1, .slice A2 (packB (encB (FW p2) (FW p1))).length c2], .int .i64 0]) ?_ rfl ⟨⟨nm, A1, _, c1, encD p1 p2, A2, _, c2, encD p2 p1⟩, rfl, Lib.hid ⟨⟨(RdY.of_own (own_keepU HO1.out HB2.out)).keep hK0 (by decide), rfl, (RdY.of_own HO2.out).keep hK0 (by decide), rfl⟩, rfl, rfl, rfl⟩, (((HBW1.out.trans (HB2.out.mono (by omega))).setCell (hq 0) _).setCell (hq 1) _).setCell (hq 2) _⟩
    rw [results_c2 rfl]
    go_simp
end Go.Proofs.Ytnidcmhfbkdioaa
