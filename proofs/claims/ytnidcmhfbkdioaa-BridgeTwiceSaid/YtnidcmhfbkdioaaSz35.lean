/-
  Lemmas for the walk, merged (Bh Ed). No condition but those in each statement.
-/
import Derived.StillTailTactics
import Derived.Test.YtnidcmhfbkdioaaSz34
import Derived.Test.YtnidcmhfbkdioaaSz10
import Derived.Test.YtnidcmhfbkdioaaSz11
namespace Go.Proofs.Ytnidcmhfbkdioaa
/-! ### Bh -/
open Go.RowKit
set_option maxRecDepth 100000
noncomputable def scItem : Code := (Try.f56.body.bind (blkN 1)).getD .skip
theorem set6_bk {w : World} {g : Nat} {c0 c1 c2 c3 c4 c5 : Value} (h : Bk w g 115 #[c0, c1, c2, c3, c4, c5]) (u0 u1 u2 u3 u4 u5 : Value) :
    Bk ((((((w.setCell ⟨g, 0, none⟩ u0).setCell ⟨g, 1, none⟩ u1).setCell ⟨g, 2, none⟩ u2).setCell ⟨g, 3, none⟩ u3).setCell ⟨g, 4, none⟩ u4).setCell ⟨g, 5, none⟩ u5) g 115 #[u0, u1, u2, u3, u4, u5] := by
  simpa using (((((h.set_ 0 u0).set_ 1 u1).set_ 2 u2).set_ 3 u3).set_ 4 u4).set_ 5 u5
/-- What a round of items needs and keeps: the map of places, and where the result lies. -/
structure ScM (w : World) (base mp n : Nat) (f : Int → Option Int) : Prop where
  m : MpI w mp n f
  lo : base ≤ mp
set_option maxHeartbeats 8000000 in
theorem scItem_any {x0 x1 x2 x3 x4 x5 x6 x7 x9 x10 x11 x13 x17 x18 x19 x20 x21 x22 x23 x24 x25 x26 x27 x28 x29 x30 x31 x32 x33 x34 x35 x36 x37 x38 x39 x40 x41 x42 x43 x44 x45 x46 x47 x49 x51 x52 x53 x54 x55 x56 x57 x58 x59 x60 x61 x62 x63 x64 x65 x66 x67 x68 x69 x70 x71 x72 x73 x74 x75 x76 x77 x78 x79 x80 x81 x82 x83 x84 x85 x86 x87 x88 x89 x90 x91 x92 x93 x94 x95 x96 x97 x98 x99 x100 x101 x102 x103 x104 x105 x106 x107 x108 x109 x110 x111 x112 x113 x114 x115 x116 x117 x118 x119 x120 : Value} {Q : Exit → Act → World → Prop} {w0 : World} {B base sA n c ec mp rA mA im ic k : Nat} {A E IA : Option Addr} {its : List It} {it : It} {m0 m1 m2 gx gy st : Int} {q : List (Bo × (Int × Int))} {f : Int → Option Int}
    (hits : IsOk w0 B IA im ic its) (hk : its[k]? = some it) (hm : Bk w0 mA 24 #[.int .i64 m0, .int .i64 m1, .int .i64 m2]) (hr : Bk w0 rA 115 #[.slice none 0 0, .slice none 0 0, .slice none 0 0, .int .i64 0, .int .i64 0, .int .i64 0]) (hS : ScI w0 base sA A n c E ec gx gy st q) (hM : ScM w0 base mp n f)
    (hv0 : VaOk it.cms m0 3) (hv1 : VaOk it.cms m1 4) (hv2 : VaOk it.cms m2 5) (hn64 : n ≤ 64) (_hB : B ≤ base) (hbase : base ≤ w0.heap.size) (hrA : base ≤ rA) (hrs : rA ≠ sA)
    (hNo : ∀ (y18 y19 y20 y52 y53 y54 y55 y56 y57 y58 y59 y60 y61 y62 y63 y64 y65 y66 y67 y68 y69 y70 y71 y72 y73 y74 y75 y76 y77 y78 y79 y80 y81 y82 : Value) (w' : World), Hid (bodyF m0 m1 m2 it.cms = none ∧ Below w0.heap.size w0 w') → Q .normal ⟨#[x0, x1, x2, x3, x4, x5, x6, x7, .pointer (some ⟨rA, 0, none⟩), x9, x10, x11, .pointer (some ⟨mA, 0, none⟩), x13, .pointer (some ⟨sA, 0, none⟩), .slice E n ec, .map (some mp), x17, y18, y19, y20, x21, x22, x23, x24, x25, x26, x27, x28, x29, x30, x31, x32, x33, x34, x35, x36, x37, x38, x39, x40, x41, x42, x43, x44, x45, x46, x47, .slice IA im ic, x49, .int .i64 (k : Int), x51, y52, y53, y54, y55, y56, y57, y58, y59, y60, y61, y62, y63, y64, y65, y66, y67, y68, y69, y70, y71, y72, y73, y74, y75, y76, y77, y78, y79, y80, y81, y82, x83, x84, x85, x86, x87, x88, x89, x90, x91, x92, x93, x94, x95, x96, x97, x98, x99, x100, x101, x102, x103, x104, x105, x106, x107, x108, x109, x110, x111, x112, x113, x114, x115, x116, x117, x118, x119, x120], []⟩ w')
    (hYes : ∀ (y18 y19 y20 y52 y53 y54 y55 y56 y57 y58 y59 y60 y61 y62 y63 y64 y65 y66 y67 y68 y69 y70 y71 y72 y73 y74 y75 y76 y77 y78 y79 y80 y81 y82 : Value) (gB cB gE cE : Nat) (b : Bo) (w' : World), Hid (n < 64 ∧ bodyF m0 m1 m2 it.cms = some b ∧ ScI w' base sA (some ⟨gB, 0, none⟩) (n + 1) cB (some ⟨gE, 0, none⟩) cE gx gy st (q ++ [(b, (it.e, it.g))]) ∧ ScM w' base mp (n + 1) (fun j => if j = it.e then some (n : Int) else f j) ∧ Kx 0 [124, 128, 115] w0 w' ∧ Bk w' rA 115 #[.slice none 0 0, .slice none 0 0, .slice none 0 0, .int .i64 0, .int .i64 0, .int .i64 0] ∧ Below base w0 w') → Q .normal ⟨#[x0, x1, x2, x3, x4, x5, x6, x7, .pointer (some ⟨rA, 0, none⟩), x9, x10, x11, .pointer (some ⟨mA, 0, none⟩), x13, .pointer (some ⟨sA, 0, none⟩), .slice (some ⟨gE, 0, none⟩) (n + 1) cE, .map (some mp), x17, y18, y19, y20, x21, x22, x23, x24, x25, x26, x27, x28, x29, x30, x31, x32, x33, x34, x35, x36, x37, x38, x39, x40, x41, x42, x43, x44, x45, x46, x47, .slice IA im ic, x49, .int .i64 (k : Int), x51, y52, y53, y54, y55, y56, y57, y58, y59, y60, y61, y62, y63, y64, y65, y66, y67, y68, y69, y70, y71, y72, y73, y74, y75, y76, y77, y78, y79, y80, y81, y82, x83, x84, x85, x86, x87, x88, x89, x90, x91, x92, x93, x94, x95, x96, x97, x98, x99, x100, x101, x102, x103, x104, x105, x106, x107, x108, x109, x110, x111, x112, x113, x114, x115, x116, x117, x118, x119, x120], []⟩ w')
    (hErr : ∀ (y18 y19 y20 y52 y53 y54 y55 y56 y57 y58 y59 y60 y61 y62 y63 y64 y65 y66 y67 y68 y69 y70 y71 y72 y73 y74 y75 y76 y77 y78 y79 y80 y81 y82 : Value) (w' : World), Hid (n = 64 ∧ (bodyF m0 m1 m2 it.cms).isSome = true ∧ Bk w' rA 115 #[.slice none 0 0, .slice none 0 0, .slice none 0 0, .int .i64 0, .int .i64 0, .int .i64 0] ∧ Below base w0 w') → Q .ret ⟨#[x0, x1, x2, x3, x4, x5, x6, x7, .pointer (some ⟨rA, 0, none⟩), .slice none 0 0, .int .i64 2, x11, .pointer (some ⟨mA, 0, none⟩), x13, .pointer (some ⟨sA, 0, none⟩), .slice E n ec, .map (some mp), x17, y18, y19, y20, x21, x22, x23, x24, x25, x26, x27, x28, x29, x30, x31, x32, x33, x34, x35, x36, x37, x38, x39, x40, x41, x42, x43, x44, x45, x46, x47, .slice IA im ic, x49, .int .i64 (k : Int), x51, y52, y53, y54, y55, y56, y57, y58, y59, y60, y61, y62, y63, y64, y65, y66, y67, y68, y69, y70, y71, y72, y73, y74, y75, y76, y77, y78, y79, y80, y81, y82, x83, x84, x85, x86, x87, x88, x89, x90, x91, x92, x93, x94, x95, x96, x97, x98, x99, x100, x101, x102, x103, x104, x105, x106, x107, x108, x109, x110, x111, x112, x113, x114, x115, x116, x117, x118, x119, x120], []⟩ w') :
    Code.wp Try.prog scItem Q ⟨#[x0, x1, x2, x3, x4, x5, x6, x7, .pointer (some ⟨rA, 0, none⟩), x9, x10, x11, .pointer (some ⟨mA, 0, none⟩), x13, .pointer (some ⟨sA, 0, none⟩), .slice E n ec, .map (some mp), x17, x18, x19, x20, x21, x22, x23, x24, x25, x26, x27, x28, x29, x30, x31, x32, x33, x34, x35, x36, x37, x38, x39, x40, x41, x42, x43, x44, x45, x46, x47, .slice IA im ic, x49, .int .i64 (k : Int), x51, x52, x53, x54, x55, x56, x57, x58, x59, x60, x61, x62, x63, x64, x65, x66, x67, x68, x69, x70, x71, x72, x73, x74, x75, x76, x77, x78, x79, x80, x81, x82, x83, x84, x85, x86, x87, x88, x89, x90, x91, x92, x93, x94, x95, x96, x97, x98, x99, x100, x101, x102, x103, x104, x105, x106, x107, x108, x109, x110, x111, x112, x113, x114, x115, x116, x117, x118, x119, x120], []⟩ w0 := by
  conv => arg 2; whnf
  have hmem := List.mem_of_getElem? hk
  have hkn : k < im := by rw [hits.len]; exact (List.getElem?_eq_some_iff.1 hk).1
  obtain ⟨bi, oi, hIA, hbi, q0, q1, q2⟩ := Rd.it hits.rd hkn hk
  subst hIA
  have hkz : (k : Int) < im := by omega
  have hkz0 : (0 : Int) ≤ k := by omega
  have hIC := hits.cap
  have hIC2 := hits.cap2
  obtain ⟨R, hR⟩ : ∃ R, R = bodyF m0 m1 m2 it.cms := ⟨_, rfl⟩
  obtain ⟨ia, hia⟩ : ∃ z, z = w0.heap.size := ⟨_, rfl⟩
  obtain ⟨W1, hW1⟩ : ∃ z, z = w0.alloc (.cells #[.int .i64 it.e, .int .i64 it.g, .slice it.A it.n it.c] 147) := ⟨_, rfl⟩
  have hb1 : Below w0.heap.size w0 W1 := by rw [hW1]; exact (Below.refl _ _).alloc (Nat.le_refl _) _
  have HIA : Hid (Bk W1 ia 147 #[.int .i64 it.e, .int .i64 it.g, .slice it.A it.n it.c]) := Lib.hid (by rw [hW1, hia]; exact Bk.new _ _ _)
  have HBD : Hid (Calls Try.prog 135 #[.agg #[.int .i64 m0, .int .i64 m1, .int .i64 m2], .agg #[.int .i64 it.e, .int .i64 it.g, .slice it.A it.n it.c]] W1 (BoP W1 R)) := Lib.hid (by
    rw [hR]
    exact body_any ((hits.ok it hmem).cs.below (hb1.mono hits.lo)) it.e it.g m0 m1 m2 hv0 hv1 hv2)
  have HWF := Lib.hid (hits.ok it hmem).wf1
  have HM1 : Hid (Bk W1 mA 24 #[.int .i64 m0, .int .i64 m1, .int .i64 m2]) := Lib.hid (hm.below hb1 hm.lt)
  have HR1 : Hid (Bk W1 rA 115 #[.slice none 0 0, .slice none 0 0, .slice none 0 0, .int .i64 0, .int .i64 0, .int .i64 0]) := Lib.hid (hr.below hb1 hr.lt)
  have HS1 : Hid (ScI W1 base sA A n c E ec gx gy st q) := Lib.hid (hS.keep (F := []) (Kx.of_below hb1) (by simp) (by simp) (by simp) (by simp))
  have HMP1 : Hid (ScM W1 base mp n f) := Lib.hid ⟨hM.m.keep (F := []) (Kz.of_below hb1), hM.lo⟩
  have HB1 := Lib.hid hb1
  have HBS : Hid (base ≤ W1.heap.size ∧ w0.heap.size ≤ W1.heap.size) := Lib.hid ⟨Nat.le_trans hbase hb1.size, hb1.size⟩
  have hE := hS.en
  have HIT := Lib.hid hits
  have HRR := Lib.hid hR
  clear hits hk hm hr hS hM hv0 hv1 hv2 hmem hb1 hbi hE hR
  go_upto_region 13 with fail
  rw [← hW1, ← hia]
  clear q0 q1 q2 hW1 hia HIT
  have a0 : W1.cell? ⟨mA, 0, none⟩ = some (.int .i64 m0) := HM1.out.cell 0
  have a1 : W1.cell? ⟨mA, 1, none⟩ = some (.int .i64 m1) := HM1.out.cell 1
  have a2 : W1.cell? ⟨mA, 2, none⟩ = some (.int .i64 m2) := HM1.out.cell 2
  have i0 : W1.cell? ⟨ia, 0, none⟩ = some (.int .i64 it.e) := HIA.out.cell 0
  have i1 : W1.cell? ⟨ia, 1, none⟩ = some (.int .i64 it.g) := HIA.out.cell 1
  have i2 : W1.cell? ⟨ia, 2, none⟩ = some (.slice it.A it.n it.c) := HIA.out.cell 2
  go_wp2_with fail
  (with_reducible refine HBD.out.mono ?_)
  rintro e' w2 ⟨hb2, hr2⟩
  have HB2 := Lib.hid hb2
  clear a0 a1 a2 i0 i1 i2 HBD hb2
  rcases R with _ | b
  · dsimp only at hr2
    subst hr2
    unfold BoZ
    have HBX : Hid (Below w0.heap.size w0 w2) := Lib.hid (HB1.out.trans (HB2.out.mono HBS.out.2))
    have hlo : w0.heap.size ≤ w2.heap.size := HBX.out.size
    go_wp2_with fail
    (try simp only [Exit.inBlock, Exit.then])
    refine hNo _ _ _ _ _ _ _ _ _ _ _ _ _ _ _ _ _ _ _ _ _ _ _ _ _ _ _ _ _ _ _ _ _ _ _ (Lib.hid ⟨HRR.out.symm, ?_⟩)
    have hbx := HBX.out
    exact hbx.alloc hlo _
  · dsimp only at hr2
    obtain ⟨g0, cc, rfl, hown⟩ := hr2
    unfold Bo.v
    obtain ⟨ba, hba⟩ : ∃ z, z = w2.heap.size := ⟨_, rfl⟩
    obtain ⟨W3, hW3⟩ : ∃ z, z = w2.alloc (.cells #[.int .i64 b.px, .int .i64 b.py, .int .i64 b.vx, .int .i64 b.vy, .int .i64 b.ang, .int .i64 b.spin, .int .i64 b.mass, .int .i64 b.inr, .int .i64 b.bou, .int .i64 b.rub, .slice (some ⟨g0, 0, none⟩) 4 cc, .bool b.asl, .int .i64 b.calm] 124) := ⟨_, rfl⟩
    have HB3 : Hid (Below W1.heap.size W1 W3) := Lib.hid (by rw [hW3]; exact HB2.out.alloc HB2.out.size _)
    have HBA : Hid (Bk W3 ba 124 #[.int .i64 b.px, .int .i64 b.py, .int .i64 b.vx, .int .i64 b.vy, .int .i64 b.ang, .int .i64 b.spin, .int .i64 b.mass, .int .i64 b.inr, .int .i64 b.bou, .int .i64 b.rub, .slice (some ⟨g0, 0, none⟩) 4 cc, .bool b.asl, .int .i64 b.calm]) := Lib.hid (by rw [hW3, hba]; exact Bk.new _ _ _)
    have HBY : Hid (BmY W3 base ⟨b, g0, cc⟩) := Lib.hid (by rw [hW3]; exact own_monoB (hown.alloc _) HBS.out.1)
    have HLT : Hid (W1.heap.size ≤ ba) := Lib.hid (by rw [hba]; exact HB2.out.size)
    have HB03 : Hid (Below base w0 W3) := Lib.hid ((HB1.out.mono hbase).trans (HB3.out.mono HBS.out.1))
    have HIA3 := Lib.hid (HIA.out.below HB3.out HIA.out.lt)
    have HR3 := Lib.hid (HR1.out.below HB3.out HR1.out.lt)
    have HS3 : Hid (ScI W3 base sA A n c E ec gx gy st q) := Lib.hid (HS1.out.keep (F := []) (Kx.of_below HB3.out) (by simp) (by simp) (by simp) (by simp))
    have HMP3 : Hid (ScM W3 base mp n f) := Lib.hid ⟨HMP1.out.m.keep (F := []) (Kz.of_below HB3.out), HMP1.out.lo⟩
    have HQ : Hid (n = q.length) := Lib.hid HS1.out.len
    have HNE : Hid ((Value.slice A n c).ownBlock ≠ some ba) := Lib.hid (by
      obtain ⟨l, hl, _⟩ := HS1.out.bm
      intro e
      have := (hl.own.lt ba e).2
      have := HLT.out
      omega)
    have HK03 : Hid (Kx 0 [124, 128, 115] w0 W3) := Lib.hid ((Kx.of_below HB1.out).trans (Kx.of_below HB3.out))
    by_cases hc : n = 64
    · have hcz : (n : Int) = 64 := by omega
      have HC := Lib.hid hc
      clear hc
      go_upto_region 16 with fail
      rw [← hW3]
      have z0 : W3.cell? ⟨rA, 0, none⟩ = some (.slice none 0 0) := HR3.out.cell 0
      have z1 : W3.cell? ⟨rA, 1, none⟩ = some (.slice none 0 0) := HR3.out.cell 1
      have z2 : W3.cell? ⟨rA, 2, none⟩ = some (.slice none 0 0) := HR3.out.cell 2
      have z3 : W3.cell? ⟨rA, 3, none⟩ = some (.int .i64 0) := HR3.out.cell 3
      have z4 : W3.cell? ⟨rA, 4, none⟩ = some (.int .i64 0) := HR3.out.cell 4
      have z5 : W3.cell? ⟨rA, 5, none⟩ = some (.int .i64 0) := HR3.out.cell 5
      have y0 := HR3.out.frozen 0
      have y1 := HR3.out.frozen 1
      have y2 := HR3.out.frozen 2
      have y3 := HR3.out.frozen 3
      have y4 := HR3.out.frozen 4
      have y5 := HR3.out.frozen 5
      clear hW3 hba hown
      go_wp2_with fail
      (try simp only [Exit.inBlock, Exit.then])
      have HF : Hid (n = 64 ∧ (bodyF m0 m1 m2 it.cms).isSome = true ∧ Bk ((((((W3.setCell ⟨rA, 0, none⟩ (.slice none 0 0)).setCell ⟨rA, 1, none⟩ (.slice none 0 0)).setCell ⟨rA, 2, none⟩ (.slice none 0 0)).setCell ⟨rA, 3, none⟩ (.int .i64 0)).setCell ⟨rA, 4, none⟩ (.int .i64 0)).setCell ⟨rA, 5, none⟩ (.int .i64 0)) rA 115 #[.slice none 0 0, .slice none 0 0, .slice none 0 0, .int .i64 0, .int .i64 0, .int .i64 0] ∧ Below base w0 ((((((W3.setCell ⟨rA, 0, none⟩ (.slice none 0 0)).setCell ⟨rA, 1, none⟩ (.slice none 0 0)).setCell ⟨rA, 2, none⟩ (.slice none 0 0)).setCell ⟨rA, 3, none⟩ (.int .i64 0)).setCell ⟨rA, 4, none⟩ (.int .i64 0)).setCell ⟨rA, 5, none⟩ (.int .i64 0))) := Lib.hid (by
        refine ⟨HC.out, by rw [← HRR.out]; rfl, set6_bk HR3.out _ _ _ _ _ _, ?_⟩
        have hbx := HB03.out
        (repeat' first | with_reducible exact hbx | with_reducible refine Below.setCell ?_ hrA _))
      first
        | exact HF
        | exact hErr _ _ _ _ _ _ _ _ _ _ _ _ _ _ _ _ _ _ _ _ _ _ _ _ _ _ _ _ _ _ _ _ _ _ _ HF
    · have hcz : (n : Int) ≠ 64 := by omega
      go_upto_region 17 with fail
      rw [← hW3]
      rw [← hba]
      clear hW3 hba hown
      have hei : W3.cell? ⟨ia, 0, none⟩ = some (.int .i64 it.e) := HIA3.out.cell 0
      obtain ⟨W4, hput, hm4, hg4⟩ := HMP3.out.m.put (t := 238) Try.underlying238 (by unfold maxLen; omega) (k := it.e) (v := (n : Int)) HWF.out (wf_small hn64)
      have HKM : Hid (Kx 0 [] W3 W4) := Lib.hid (HMP3.out.m.kx hg4)
      have HM4 := Lib.hid hm4
      have HB34 : Hid (Below base W3 W4) := Lib.hid ⟨hg4.os, hg4.tape, hg4.output, hg4.size, fun x hx => hg4.block x (by have := HB03.out.size; omega) (fun e => by have := HMP3.out.lo; injection e with e; omega)⟩
      have HSZ4 : Hid (base ≤ W4.heap.size) := Lib.hid (by have := HB03.out.size; have := HB34.out.size; omega)
      clear hm4 hg4
      go_upto_region 18 with fail
      clear hput hei
      refine sc18_any (HS1.out.keep (F := []) ((Kx.of_below HB3.out).trans HKM.out) (by simp) (by simp) (by simp) (by simp)) (HKM.out.bk HIA3.out (by simp)) (HKM.out.bk HBA.out (by simp)) (HKM.out.own HBY.out (by simp)) (by rw [← HQ.out]; exact hn64) HSZ4.out HNE.out ?_
      intro z72 z73 z74 z75 z76 z77 z78 z79 z80 z81 z82 gB cB gE cE w5 H5
      have HF : Hid (n < 64 ∧ bodyF m0 m1 m2 it.cms = some b ∧ ScI w5 base sA (some ⟨gB, 0, none⟩) (n + 1) cB (some ⟨gE, 0, none⟩) cE gx gy st (q ++ [(b, (it.e, it.g))]) ∧ ScM w5 base mp (n + 1) (fun j => if j = it.e then some (n : Int) else f j) ∧ Kx 0 [124, 128, 115] w0 w5 ∧ Bk w5 rA 115 #[.slice none 0 0, .slice none 0 0, .slice none 0 0, .int .i64 0, .int .i64 0, .int .i64 0] ∧ Below base w0 w5) := Lib.hid ⟨by omega, HRR.out.symm, H5.out.1, ⟨HM4.out.keep H5.out.2.1, HMP3.out.lo⟩, HK03.out.trans ((HKM.out.mono (Nat.le_refl _) (by simp)).trans H5.out.2.1.kx), H5.out.2.2.2 rA _ hrs (HKM.out.bk HR3.out (by simp)), HB03.out.trans (HB34.out.trans H5.out.2.2.1)⟩
      (try simp only [Exit.inBlock])
      exact hYes _ _ _ _ _ _ _ _ _ _ _ _ _ _ _ _ _ _ _ _ _ _ _ _ _ _ _ _ _ _ _ _ _ _ _ _ _ _ b _ HF
/-! ### Ed -/
/-- A body as a row of 13 cells, its corners any slice. -/
structure By where
  px : Int
  py : Int
  vx : Int
  vy : Int
  ang : Int
  spin : Int
  mass : Int
  inr : Int
  bou : Int
  rub : Int
  cA : Option Addr
  cn : Nat
  cc : Nat
  asl : Bool
  calm : Int
def By.cs (b : By) : List Value := [.int .i64 b.px, .int .i64 b.py, .int .i64 b.vx, .int .i64 b.vy, .int .i64 b.ang, .int .i64 b.spin, .int .i64 b.mass, .int .i64 b.inr, .int .i64 b.bou, .int .i64 b.rub, .slice b.cA b.cn b.cc, .bool b.asl, .int .i64 b.calm]
def byCs (l : List By) : List Value := l.flatMap By.cs
def Bm.by_ (x : Bm) : By := ⟨x.b.px, x.b.py, x.b.vx, x.b.vy, x.b.ang, x.b.spin, x.b.mass, x.b.inr, x.b.bou, x.b.rub, some ⟨x.g, 0, none⟩, 4, x.c, x.b.asl, x.b.calm⟩
theorem byCs_bm (l : List Bm) : byCs (l.map Bm.by_) = bmCs l := by
  unfold byCs bmCs
  rw [List.flatMap_map]
  rfl
theorem byCs_get (l : List By) (k j : Nat) (f : By) (h : l[k]? = some f) (hj : j < 13) : (byCs l)[k * 13 + j]? = (By.cs f)[j]? := by
  induction l generalizing k with
  | nil => simp at h
  | cons a l ih =>
    have e : byCs (a :: l) = By.cs a ++ byCs l := by simp [byCs]
    rw [e]
    cases k with
    | zero =>
      have ea : a = f := by simpa using h
      subst ea
      rw [List.getElem?_append_left (by simp [By.cs]; omega)]
      simp
    | succ k =>
      rw [List.getElem?_append_right (by simp [By.cs]; omega)]
      have h2 : l[k]? = some f := by simpa using h
      rw [← ih k h2]
      congr 1
      simp [By.cs]; omega
theorem Rd.by_ {w : World} {B n : Nat} {A : Option Addr} {l : List By} {k : Nat} {f : By} (h : Rd w B 13 A n (byCs l)) (hk : k < n) (hf : l[k]? = some f) :
    ∃ b o, A = some ⟨b, o, none⟩ ∧ b < B ∧ w.cell? ⟨b, o + k * 13, none⟩ = some (.int .i64 f.px) ∧ w.cell? ⟨b, o + k * 13 + 1, none⟩ = some (.int .i64 f.py) ∧ w.cell? ⟨b, o + k * 13 + 2, none⟩ = some (.int .i64 f.vx) ∧ w.cell? ⟨b, o + k * 13 + 3, none⟩ = some (.int .i64 f.vy) ∧ w.cell? ⟨b, o + k * 13 + 4, none⟩ = some (.int .i64 f.ang) ∧ w.cell? ⟨b, o + k * 13 + 5, none⟩ = some (.int .i64 f.spin) ∧ w.cell? ⟨b, o + k * 13 + 6, none⟩ = some (.int .i64 f.mass) ∧ w.cell? ⟨b, o + k * 13 + 7, none⟩ = some (.int .i64 f.inr) ∧ w.cell? ⟨b, o + k * 13 + 8, none⟩ = some (.int .i64 f.bou) ∧ w.cell? ⟨b, o + k * 13 + 9, none⟩ = some (.int .i64 f.rub) ∧ w.cell? ⟨b, o + k * 13 + 10, none⟩ = some (.slice f.cA f.cn f.cc) ∧ w.cell? ⟨b, o + k * 13 + 11, none⟩ = some (.bool f.asl) ∧ w.cell? ⟨b, o + k * 13 + 12, none⟩ = some (.int .i64 f.calm) := by
  obtain ⟨b, o, e, hb, hc⟩ := h.2 (by omega)
  have hg : ∀ j, j < 13 → ∀ u, (By.cs f)[j]? = some u → w.cell? ⟨b, o + k * 13 + j, none⟩ = some u := fun j hj u hu => by
    rw [Nat.add_assoc]; exact hc (k * 13 + j) _ ((byCs_get l k j f hf hj).trans hu)
  exact ⟨b, o, e, hb, hg 0 (by omega) _ rfl, hg 1 (by omega) _ rfl, hg 2 (by omega) _ rfl, hg 3 (by omega) _ rfl, hg 4 (by omega) _ rfl, hg 5 (by omega) _ rfl, hg 6 (by omega) _ rfl, hg 7 (by omega) _ rfl, hg 8 (by omega) _ rfl, hg 9 (by omega) _ rfl, hg 10 (by omega) _ rfl, hg 11 (by omega) _ rfl, hg 12 (by omega) _ rfl⟩
theorem enCs_getW (l : List (Int × Int)) (k : Nat) (f : Int × Int) (h : l[k]? = some f) : (enCs l)[k * 2]? = some (.int .i64 f.1) ∧ (enCs l)[k * 2 + 1]? = some (.int .i64 f.2) := by
  induction l generalizing k with
  | nil => simp at h
  | cons a l ih =>
    have e : enCs (a :: l) = [.int .i64 a.1, .int .i64 a.2] ++ enCs l := by simp [enCs]
    rw [e]
    cases k with
    | zero =>
      have ea : a = f := by simpa using h
      subst ea
      simp
    | succ k =>
      have h2 : l[k]? = some f := by simpa using h
      obtain ⟨e1, e2⟩ := ih k h2
      constructor
      · rw [List.getElem?_append_right (by simp; omega), ← e1]; congr 1; simp; omega
      · rw [List.getElem?_append_right (by simp; omega), ← e2]; congr 1; simp; omega
theorem Rd.enW {w : World} {B n : Nat} {A : Option Addr} {l : List (Int × Int)} {k : Nat} {f : Int × Int} (h : Rd w B 2 A n (enCs l)) (hk : k < n) (hf : l[k]? = some f) :
    ∃ b o, A = some ⟨b, o, none⟩ ∧ b < B ∧ w.cell? ⟨b, o + k * 2, none⟩ = some (.int .i64 f.1) ∧ w.cell? ⟨b, o + k * 2 + 1, none⟩ = some (.int .i64 f.2) := by
  obtain ⟨b, o, e, hb, hc⟩ := h.2 (by omega)
  have hg := enCs_getW l k f hf
  exact ⟨b, o, e, hb, hc (k * 2) _ hg.1, by rw [Nat.add_assoc]; exact hc (k * 2 + 1) _ hg.2⟩
/-- The fourth number of a motion. -/
def calmV (b : By) : Int := 2 * wiF b.calm 0 1000 + if b.asl then 1 else 0
def plF (d : ByteArray × List Fd) (b : By) : List Int := (fitF d.1 d.2 [b.px, b.py, b.ang]).1
def moF (d : ByteArray × List Fd) (b : By) : List Int := (fitF d.1 d.2 [b.vx, b.vy, b.spin, calmV b]).1
def updI (m : Int) (fv : List Int) (x : Iv) : Iv := (x.1, x.2.map (updC m fv))
def bwUp (m0 m1 : Int) (d0 d1 : ByteArray × List Fd) (b : By) (x : Iv) : Iv := updI m1 (moF d1 b) (updI m0 (plF d0 b) x)
def findP (l : List Iv) (N M : Int) : Int := idxF (fun x : Iv => decide (x.1.1 = N ∧ x.1.2 = M)) l
theorem idxF_map {α β : Type} (f : α → β) (p : β → Bool) (l : List α) : idxF p (l.map f) = idxF (fun x => p (f x)) l := by
  induction l with
  | nil => rfl
  | cons a l ih => simp only [List.map_cons, idxF]; rw [ih]
theorem findEnt_p (l : List It) (N M : Int) : findEnt l N M = findP (l.map It.p) N M := by
  unfold findEnt findP
  rw [idxF_map]
  rfl
/-- One entity's body is written. -/
def bwOne (m0 m1 : Int) (d0 d1 : ByteArray × List Fd) (l : List Iv) (r : (Int × Int) × By) : List Iv :=
  match l[(findP l r.1.1 r.1.2).toNat]? with
  | some x => l.set (findP l r.1.1 r.1.2).toNat (bwUp m0 m1 d0 d1 r.2 x)
  | none => l
/-- An entity that cannot be written. -/
def bwBad (m0 : Int) (l : List Iv) (e : Int × Int) : Bool :=
  decide (findP l e.1 e.2 < 0) || match l[(findP l e.1 e.2).toNat]? with
  | some x => !(x.2.any fun c => decide (c.1 = m0))
  | none => true
/-- The world that is written: rows of components apart. -/
structure OutS (w : World) (base : Nat) (y : Wd) : Prop where
  wd : WdY w 0 y
  sp : ItS w base y.its
theorem OutS.keep {w w' : World} {base : Nat} {y : Wd} {F : List TypeId} (h : OutS w base y) (hk : Kx 0 F w w') (h3 : (3 : TypeId) ∉ F) (h166 : (166 : TypeId) ∉ F) (h147 : (147 : TypeId) ∉ F) (h66 : (66 : TypeId) ∉ F) (h63 : (63 : TypeId) ∉ F) : OutS w' base y :=
  ⟨h.wd.keep hk h3 h166 h147 h66 h63, h.sp.keep hk h166⟩
theorem itCs_set {l : List It} {k : Nat} {x z : It} (h : l[k]? = some x) (hz : z.cs = x.cs) : itCs (l.set k z) = itCs l := by
  induction l generalizing k with
  | nil => rfl
  | cons a l ih =>
    cases k with
    | zero =>
      have e : a = x := by simpa using h
      subst e
      simp [itCs, hz]
    | succ k =>
      have h2 : l[k]? = some x := by simpa using h
      have e := ih h2
      simp only [itCs, List.set_cons_succ, List.flatMap_cons] at e ⊢
      rw [e]
theorem ItS.ne {w : World} {base k j g g' : Nat} {l : List It} {x z : It} (h : ItS w base l) (hk : l[k]? = some x) (hj : l[j]? = some z) (hne : j ≠ k) (hg : x.A = some ⟨g, 0, none⟩) (hg' : z.A = some ⟨g', 0, none⟩) : g' ≠ g := by
  obtain ⟨hk1, hk2⟩ := List.getElem?_eq_some_iff.1 hk
  obtain ⟨hj1, hj2⟩ := List.getElem?_eq_some_iff.1 hj
  have hp := List.pairwise_iff_getElem.1 h.apart
  rcases Nat.lt_or_gt_of_ne hne with h1 | h1
  · exact hp j k hj1 hk1 h1 g' g (by rw [hj2]; exact hg') (by rw [hk2]; exact hg)
  · exact (hp k j hk1 hj1 h1 g g' (by rw [hk2]; exact hg) (by rw [hj2]; exact hg')).symm
theorem OutS.set_ {w w' : World} {base k g : Nat} {m : Int} {fv : List Int} {y : Wd} {x : It} {l' : List Cm} (h : OutS w base y) (hx : y.its[k]? = some x) (hA : x.A = some ⟨g, 0, none⟩) (hS : SeI w' g m fv x.cms l' x.cms.length) (hq : Fq [g] w w') :
    OutS w' base { y with its := y.its.set k { x with cms := l' } } ∧ (y.its.set k { x with cms := l' }).map It.p = (y.its.map It.p).set k (updI m fv x.p) ∧ Kx 0 [166] w w' ∧ Below base w w' := by
  obtain ⟨hk1, hk2⟩ := List.getElem?_eq_some_iff.1 hx
  have hmem := List.mem_of_getElem? hx
  obtain ⟨g0, e0, e1, e2, hb⟩ := h.sp.row x hmem
  obtain rfl : g0 = g := by rw [hA] at e0; injection e0 with e0; injection e0 with e0; exact e0.symm
  have hk : Kx 0 [166] w w' := Kx.fqT hq hb (Nat.zero_le _)
  have hoth : ∀ j z, y.its[j]? = some z → j ≠ k → ∃ g', z.A = some ⟨g', 0, none⟩ ∧ z.c = z.n ∧ base ≤ g' ∧ Bk w' g' 166 (cmCs z.cms).toArray := fun j z hz hjk => by
    obtain ⟨g', f1, f2, f3, f4⟩ := h.sp.row z (List.mem_of_getElem? hz)
    have hne := h.sp.ne hx hz hjk hA f1
    exact ⟨g', f1, f2, f3, (hq.low g' f4.lt (by simpa using hne)).trans f4⟩
  have hval : l'.map Cm.p = x.cms.map fun c => updC m fv c.p := by
    have := hS.val
    simpa using this
  have hrow : ∀ z ∈ y.its.set k { x with cms := l' }, ∃ g', z.A = some ⟨g', 0, none⟩ ∧ z.c = z.n ∧ base ≤ g' ∧ Bk w' g' 166 (cmCs z.cms).toArray := fun z hz => by
    obtain ⟨j, hj⟩ := List.getElem?_of_mem hz
    by_cases hjk : j = k
    · subst hjk
      rw [List.getElem?_set_self hk1] at hj
      injection hj with hj
      subst hj
      exact ⟨g0, hA, e1, e2, hS.bk⟩
    · rw [List.getElem?_set_ne (Ne.symm hjk)] at hj
      exact hoth j z hj hjk
  have hity : ∀ z ∈ y.its.set k { x with cms := l' }, ItY w' 0 z := fun z hz => by
    obtain ⟨g', f1, f2, f3, f4⟩ := hrow z hz
    obtain ⟨j, hj⟩ := List.getElem?_of_mem hz
    by_cases hjk : j = k
    · subst hjk
      rw [List.getElem?_set_self hk1] at hj
      injection hj with hj
      subst hj
      have hi := h.wd.its.ok x hmem
      refine ⟨⟨?_, hi.cs.len.trans hS.len.symm, hi.cs.cap, hi.cs.cap2, hS.cm⟩, hi.wf1, hi.wf2⟩
      show RdY w' 0 166 2 x.A x.n (cmCs l')
      rw [hA]
      exact RdY.of_bk hS.bk (by rw [cmCs_len, hS.len, ← hi.cs.len]) fun j u hu => by simpa using hu
    · rw [List.getElem?_set_ne (Ne.symm hjk)] at hj
      have hi := h.wd.its.ok z (List.mem_of_getElem? hj)
      refine ⟨⟨?_, hi.cs.len, hi.cs.cap, hi.cs.cap2, fun c hc => (hi.cs.ok c hc).keep hk (by decide)⟩, hi.wf1, hi.wf2⟩
      rw [f1]
      exact RdY.of_bk f4 (by rw [cmCs_len, ← hi.cs.len]) fun j u hu => by simpa using hu
  refine ⟨⟨⟨h.wd.ks.keep hk (by decide) (by decide), h.wd.gs.keep hk (by decide), ⟨?_, by rw [List.length_set]; exact h.wd.its.len, h.wd.its.cap, h.wd.its.cap2, hity⟩⟩, ⟨hrow, ?_⟩⟩, ?_, hk, hq.below (by simpa using e2) (by have := hb.lt; omega)⟩
  · show RdY w' 0 147 3 y.iA y.im (itCs (y.its.set k { x with cms := l' }))
    rw [itCs_set (z := { x with cms := l' }) hx rfl]
    exact h.wd.its.rd.keep hk (by decide)
  · have ha : (y.its.set k { x with cms := l' }).map It.A = y.its.map It.A := by
      rw [List.map_set]
      exact List.set_getElem_self' (by rw [List.getElem?_map, hx]; rfl)
    have hp : (y.its.map It.A).Pairwise fun a b => ∀ g g', a = some ⟨g, 0, none⟩ → b = some ⟨g', 0, none⟩ → g ≠ g' := List.pairwise_map.2 h.sp.apart
    rw [← ha] at hp
    exact List.pairwise_map.1 hp
  · rw [List.map_set]
    congr 1
    show ((x.e, x.g), l'.map Cm.p) = updI m fv ((x.e, x.g), x.cms.map Cm.p)
    rw [hval]
    unfold updI
    rw [List.map_map]
    rfl
end Go.Proofs.Ytnidcmhfbkdioaa
