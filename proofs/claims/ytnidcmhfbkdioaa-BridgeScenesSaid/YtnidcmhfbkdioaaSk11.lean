/-
  One item in bridge.Scene: its body, if it has one. Conditions: what is read can be read; values that are not great.
-/
import Derived.StillTailTactics
import Derived.Test.YtnidcmhfbkdioaaSk10
namespace Go.Proofs.Ytnidcmhfbkdioaa
open Go.RowKit
set_option maxRecDepth 100000
def blkN (n : Nat) : Code → Option Code
  | .block k c => if k = n then some (.block k c) else blkN n c
  | .seq a b => match blkN n a with
    | some c => some c
    | none => blkN n b
  | .loop c => blkN n c
  | .scope c => blkN n c
  | .cond _ a b => match blkN n a with
    | some c => some c
    | none => blkN n b
  | _ => none
noncomputable def scItem : Code := (Try.f56.body.bind (blkN 1)).getD .skip
theorem set6_bk {w : World} {g : Nat} {c0 c1 c2 c3 c4 c5 : Value} (h : Bk w g 115 #[c0, c1, c2, c3, c4, c5]) (u0 u1 u2 u3 u4 u5 : Value) :
    Bk ((((((w.setCell ⟨g, 0, none⟩ u0).setCell ⟨g, 1, none⟩ u1).setCell ⟨g, 2, none⟩ u2).setCell ⟨g, 3, none⟩ u3).setCell ⟨g, 4, none⟩ u4).setCell ⟨g, 5, none⟩ u5) g 115 #[u0, u1, u2, u3, u4, u5] := by
  simpa using (((((h.set_ 0 u0).set_ 1 u1).set_ 2 u2).set_ 3 u3).set_ 4 u4).set_ 5 u5
theorem wf_small {n : Nat} (h : n ≤ 64) : (Lit.int .i64 (n : Int)).wf = true := by
  have e1 : IntKind.i64.min = -9223372036854775808 := by decide
  have e2 : IntKind.i64.max = 9223372036854775807 := by decide
  simp [Lit.wf, e1, e2]
  omega
/-- What a round of items needs and keeps: the map of places, and where the result lies. -/
structure ScM (w : World) (base mp n : Nat) (f : Int → Option Int) : Prop where
  m : MpI w mp n f
  lo : base ≤ mp
set_option maxHeartbeats 8000000 in
theorem scItem_any {x0 x1 x2 x3 x4 x5 x6 x7 x9 x10 x11 x13 x17 x18 x19 x20 x21 x22 x23 x24 x25 x26 x27 x28 x29 x30 x31 x32 x33 x34 x35 x36 x37 x38 x39 x40 x41 x42 x43 x44 x45 x46 x47 x49 x51 x52 x53 x54 x55 x56 x57 x58 x59 x60 x61 x62 x63 x64 x65 x66 x67 x68 x69 x70 x71 x72 x73 x74 x75 x76 x77 x78 x79 x80 x81 x82 x83 x84 x85 x86 x87 x88 x89 x90 x91 x92 x93 x94 x95 x96 x97 x98 x99 x100 x101 x102 x103 x104 x105 x106 x107 x108 x109 x110 x111 x112 x113 x114 x115 x116 x117 x118 x119 x120 : Value} {Q : Exit → Act → World → Prop} {w0 : World} {B base sA n c ec mp rA mA im ic k : Nat} {A E IA : Option Addr} {its : List It} {it : It} {m0 m1 m2 gx gy st : Int} {q : List (Bo × (Int × Int))} {f : Int → Option Int}
    (hits : IsOk w0 B IA im ic its) (hk : its[k]? = some it) (hm : Bk w0 mA 24 #[.int .i64 m0, .int .i64 m1, .int .i64 m2]) (hr : Bk w0 rA 115 #[.slice none 0 0, .slice none 0 0, .slice none 0 0, .int .i64 0, .int .i64 0, .int .i64 0]) (hS : ScI w0 base sA A n c E ec gx gy st q) (hM : ScM w0 base mp n f)
    (hv0 : VaOk it.cms m0 3) (hv1 : VaOk it.cms m1 4) (hv2 : VaOk it.cms m2 5) (hn64 : n ≤ 64) (_hB : B ≤ base) (hbase : base ≤ w0.heap.size) (hrA : base ≤ rA) (hrs : rA ≠ sA)
    (hNo : ∀ (y18 y19 y20 y52 y53 y54 y55 y56 y57 y58 y59 y60 y61 y62 y63 y64 y65 y66 y67 y68 y69 y70 y71 y72 y73 y74 y75 y76 y77 y78 y79 y80 y81 y82 : Value) (w' : World), Hid (bodyF m0 m1 m2 it.cms = none ∧ Below w0.heap.size w0 w') → Q .normal ⟨#[x0, x1, x2, x3, x4, x5, x6, x7, .pointer (some ⟨rA, 0, none⟩), x9, x10, x11, .pointer (some ⟨mA, 0, none⟩), x13, .pointer (some ⟨sA, 0, none⟩), .slice E n ec, .map (some mp), x17, y18, y19, y20, x21, x22, x23, x24, x25, x26, x27, x28, x29, x30, x31, x32, x33, x34, x35, x36, x37, x38, x39, x40, x41, x42, x43, x44, x45, x46, x47, .slice IA im ic, x49, .int .i64 (k : Int), x51, y52, y53, y54, y55, y56, y57, y58, y59, y60, y61, y62, y63, y64, y65, y66, y67, y68, y69, y70, y71, y72, y73, y74, y75, y76, y77, y78, y79, y80, y81, y82, x83, x84, x85, x86, x87, x88, x89, x90, x91, x92, x93, x94, x95, x96, x97, x98, x99, x100, x101, x102, x103, x104, x105, x106, x107, x108, x109, x110, x111, x112, x113, x114, x115, x116, x117, x118, x119, x120], []⟩ w')
    (hYes : ∀ (y18 y19 y20 y52 y53 y54 y55 y56 y57 y58 y59 y60 y61 y62 y63 y64 y65 y66 y67 y68 y69 y70 y71 y72 y73 y74 y75 y76 y77 y78 y79 y80 y81 y82 : Value) (gB cB gE cE : Nat) (b : Bo) (w' : World), Hid (n < 64 ∧ bodyF m0 m1 m2 it.cms = some b ∧ ScI w' base sA (some ⟨gB, 0, none⟩) (n + 1) cB (some ⟨gE, 0, none⟩) cE gx gy st (q ++ [(b, (it.e, it.g))]) ∧ ScM w' base mp (n + 1) (fun j => if j = it.e then some (n : Int) else f j) ∧ Kx 0 [124, 128, 115] w0 w' ∧ Bk w' rA 115 #[.slice none 0 0, .slice none 0 0, .slice none 0 0, .int .i64 0, .int .i64 0, .int .i64 0] ∧ Below base w0 w') → Q .normal ⟨#[x0, x1, x2, x3, x4, x5, x6, x7, .pointer (some ⟨rA, 0, none⟩), x9, x10, x11, .pointer (some ⟨mA, 0, none⟩), x13, .pointer (some ⟨sA, 0, none⟩), .slice (some ⟨gE, 0, none⟩) (n + 1) cE, .map (some mp), x17, y18, y19, y20, x21, x22, x23, x24, x25, x26, x27, x28, x29, x30, x31, x32, x33, x34, x35, x36, x37, x38, x39, x40, x41, x42, x43, x44, x45, x46, x47, .slice IA im ic, x49, .int .i64 (k : Int), x51, y52, y53, y54, y55, y56, y57, y58, y59, y60, y61, y62, y63, y64, y65, y66, y67, y68, y69, y70, y71, y72, y73, y74, y75, y76, y77, y78, y79, y80, y81, y82, x83, x84, x85, x86, x87, x88, x89, x90, x91, x92, x93, x94, x95, x96, x97, x98, x99, x100, x101, x102, x103, x104, x105, x106, x107, x108, x109, x110, x111, x112, x113, x114, x115, x116, x117, x118, x119, x120], []⟩ w')
    (hErr : ∀ (y18 y19 y20 y52 y53 y54 y55 y56 y57 y58 y59 y60 y61 y62 y63 y64 y65 y66 y67 y68 y69 y70 y71 y72 y73 y74 y75 y76 y77 y78 y79 y80 y81 y82 : Value) (w' : World), Hid (n = 64 ∧ (bodyF m0 m1 m2 it.cms).isSome = true ∧ Bk w' rA 115 #[.slice none 0 0, .slice none 0 0, .slice none 0 0, .int .i64 0, .int .i64 0, .int .i64 0] ∧ Below base w0 w') → Q .ret ⟨#[x0, x1, x2, x3, x4, x5, x6, x7, .pointer (some ⟨rA, 0, none⟩), .slice none 0 0, .int .i64 2, x11, .pointer (some ⟨mA, 0, none⟩), x13, .pointer (some ⟨sA, 0, none⟩), .slice E n ec, .map (some mp), x17, y18, y19, y20, x21, x22, x23, x24, x25, x26, x27, x28, x29, x30, x31, x32, x33, x34, x35, x36, x37, x38, x39, x40, x41, x42, x43, x44, x45, x46, x47, .slice IA im ic, x49, .int .i64 (k : Int), x51, y52, y53, y54, y55, y56, y57, y58, y59, y60, y61, y62, y63, y64, y65, y66, y67, y68, y69, y70, y71, y72, y73, y74, y75, y76, y77, y78, y79, y80, y81, y82, x83, x84, x85, x86, x87, x88, x89, x90, x91, x92, x93, x94, x95, x96, x97, x98, x99, x100, x101, x102, x103, x104, x105, x106, x107, x108, x109, x110, x111, x112, x113, x114, x115, x116, x117, x118, x119, x120], []⟩ w') :
    Code.wp Try.prog scItem Q ⟨#[x0, x1, x2, x3, x4, x5, x6, x7, .pointer (some ⟨rA, 0, none⟩), x9, x10, x11, .pointer (some ⟨mA, 0, none⟩), x13, .pointer (some ⟨sA, 0, none⟩), .slice E n ec, .map (some mp), x17, x18, x19, x20, x21, x22, x23, x24, x25, x26, x27, x28, x29, x30, x31, x32, x33, x34, x35, x36, x37, x38, x39, x40, x41, x42, x43, x44, x45, x46, x47, .slice IA im ic, x49, .int .i64 (k : Int), x51, x52, x53, x54, x55, x56, x57, x58, x59, x60, x61, x62, x63, x64, x65, x66, x67, x68, x69, x70, x71, x72, x73, x74, x75, x76, x77, x78, x79, x80, x81, x82, x83, x84, x85, x86, x87, x88, x89, x90, x91, x92, x93, x94, x95, x96, x97, x98, x99, x100, x101, x102, x103, x104, x105, x106, x107, x108, x109, x110, x111, x112, x113, x114, x115, x116, x117, x118, x119, x120], []⟩ w0 := by
  conv => arg 2; whnf
  have hmem := List.mem_of_getElem? hk
  have hkn : k < im := by rw [hits.len]; exact (List.getElem?_eq_some_iff.1 hk).1
  obtain ⟨bi, oi, hIA, hbi, q0, q1, q2⟩ := Rd.it hits.rd hkn hk
  subst hIA
  have hkz : (k : Int) < im := by omega
  have hkz0 : (0 : Int) ≤ k := by omega
  have hIC := hits.cap
  have hIC2 := hits.cap2
  obtain ⟨R, hR⟩ : ∃ R, R = bodyF m0 m1 m2 it.cms := ⟨_, rfl⟩
  obtain ⟨ia, hia⟩ : ∃ z, z = w0.heap.size := ⟨_, rfl⟩
  obtain ⟨W1, hW1⟩ : ∃ z, z = w0.alloc (.cells #[.int .i64 it.e, .int .i64 it.g, .slice it.A it.n it.c] 147) := ⟨_, rfl⟩
  have hb1 : Below w0.heap.size w0 W1 := by rw [hW1]; exact (Below.refl _ _).alloc (Nat.le_refl _) _
  have HIA : Hid (Bk W1 ia 147 #[.int .i64 it.e, .int .i64 it.g, .slice it.A it.n it.c]) := Lib.hid (by rw [hW1, hia]; exact Bk.new _ _ _)
  have HBD : Hid (Calls Try.prog 135 #[.agg #[.int .i64 m0, .int .i64 m1, .int .i64 m2], .agg #[.int .i64 it.e, .int .i64 it.g, .slice it.A it.n it.c]] W1 (BoP W1 R)) := Lib.hid (by
    rw [hR]
    exact body_any ((hits.ok it hmem).cs.below (hb1.mono hits.lo)) it.e it.g m0 m1 m2 hv0 hv1 hv2)
  have HWF := Lib.hid (hits.ok it hmem).wf1
  have HM1 : Hid (Bk W1 mA 24 #[.int .i64 m0, .int .i64 m1, .int .i64 m2]) := Lib.hid (hm.below hb1 hm.lt)
  have HR1 : Hid (Bk W1 rA 115 #[.slice none 0 0, .slice none 0 0, .slice none 0 0, .int .i64 0, .int .i64 0, .int .i64 0]) := Lib.hid (hr.below hb1 hr.lt)
  have HS1 : Hid (ScI W1 base sA A n c E ec gx gy st q) := Lib.hid (hS.keep (F := []) (Kx.of_below hb1) (by simp) (by simp) (by simp) (by simp))
  have HMP1 : Hid (ScM W1 base mp n f) := Lib.hid ⟨hM.m.keep (F := []) (Kz.of_below hb1), hM.lo⟩
  have HB1 := Lib.hid hb1
  have HBS : Hid (base ≤ W1.heap.size ∧ w0.heap.size ≤ W1.heap.size) := Lib.hid ⟨Nat.le_trans hbase hb1.size, hb1.size⟩
  have hE := hS.en
  have HIT := Lib.hid hits
  have HRR := Lib.hid hR
  clear hits hk hm hr hS hM hv0 hv1 hv2 hmem hb1 hbi hE hR
  go_upto_region 13 with fail
  rw [← hW1, ← hia]
  clear q0 q1 q2 hW1 hia HIT
  have a0 : W1.cell? ⟨mA, 0, none⟩ = some (.int .i64 m0) := HM1.out.cell 0
  have a1 : W1.cell? ⟨mA, 1, none⟩ = some (.int .i64 m1) := HM1.out.cell 1
  have a2 : W1.cell? ⟨mA, 2, none⟩ = some (.int .i64 m2) := HM1.out.cell 2
  have i0 : W1.cell? ⟨ia, 0, none⟩ = some (.int .i64 it.e) := HIA.out.cell 0
  have i1 : W1.cell? ⟨ia, 1, none⟩ = some (.int .i64 it.g) := HIA.out.cell 1
  have i2 : W1.cell? ⟨ia, 2, none⟩ = some (.slice it.A it.n it.c) := HIA.out.cell 2
  go_wp2_with fail
  (with_reducible refine HBD.out.mono ?_)
  rintro e' w2 ⟨hb2, hr2⟩
  have HB2 := Lib.hid hb2
  clear a0 a1 a2 i0 i1 i2 HBD hb2
  rcases R with _ | b
  · dsimp only at hr2
    subst hr2
    unfold BoZ
    have HBX : Hid (Below w0.heap.size w0 w2) := Lib.hid (HB1.out.trans (HB2.out.mono HBS.out.2))
    have hlo : w0.heap.size ≤ w2.heap.size := HBX.out.size
    go_wp2_with fail
    (try simp only [Exit.inBlock, Exit.then])
    refine hNo _ _ _ _ _ _ _ _ _ _ _ _ _ _ _ _ _ _ _ _ _ _ _ _ _ _ _ _ _ _ _ _ _ _ _ (Lib.hid ⟨HRR.out.symm, ?_⟩)
    have hbx := HBX.out
    exact hbx.alloc hlo _
  · dsimp only at hr2
    obtain ⟨g0, cc, rfl, hown⟩ := hr2
    unfold Bo.v
    obtain ⟨ba, hba⟩ : ∃ z, z = w2.heap.size := ⟨_, rfl⟩
    obtain ⟨W3, hW3⟩ : ∃ z, z = w2.alloc (.cells #[.int .i64 b.px, .int .i64 b.py, .int .i64 b.vx, .int .i64 b.vy, .int .i64 b.ang, .int .i64 b.spin, .int .i64 b.mass, .int .i64 b.inr, .int .i64 b.bou, .int .i64 b.rub, .slice (some ⟨g0, 0, none⟩) 4 cc, .bool b.asl, .int .i64 b.calm] 124) := ⟨_, rfl⟩
    have HB3 : Hid (Below W1.heap.size W1 W3) := Lib.hid (by rw [hW3]; exact HB2.out.alloc HB2.out.size _)
    have HBA : Hid (Bk W3 ba 124 #[.int .i64 b.px, .int .i64 b.py, .int .i64 b.vx, .int .i64 b.vy, .int .i64 b.ang, .int .i64 b.spin, .int .i64 b.mass, .int .i64 b.inr, .int .i64 b.bou, .int .i64 b.rub, .slice (some ⟨g0, 0, none⟩) 4 cc, .bool b.asl, .int .i64 b.calm]) := Lib.hid (by rw [hW3, hba]; exact Bk.new _ _ _)
    have HBY : Hid (BmY W3 base ⟨b, g0, cc⟩) := Lib.hid (by rw [hW3]; exact own_monoB (hown.alloc _) HBS.out.1)
    have HLT : Hid (W1.heap.size ≤ ba) := Lib.hid (by rw [hba]; exact HB2.out.size)
    have HB03 : Hid (Below base w0 W3) := Lib.hid ((HB1.out.mono hbase).trans (HB3.out.mono HBS.out.1))
    have HIA3 := Lib.hid (HIA.out.below HB3.out HIA.out.lt)
    have HR3 := Lib.hid (HR1.out.below HB3.out HR1.out.lt)
    have HS3 : Hid (ScI W3 base sA A n c E ec gx gy st q) := Lib.hid (HS1.out.keep (F := []) (Kx.of_below HB3.out) (by simp) (by simp) (by simp) (by simp))
    have HMP3 : Hid (ScM W3 base mp n f) := Lib.hid ⟨HMP1.out.m.keep (F := []) (Kz.of_below HB3.out), HMP1.out.lo⟩
    have HQ : Hid (n = q.length) := Lib.hid HS1.out.len
    have HNE : Hid ((Value.slice A n c).ownBlock ≠ some ba) := Lib.hid (by
      obtain ⟨l, hl, _⟩ := HS1.out.bm
      intro e
      have := (hl.own.lt ba e).2
      have := HLT.out
      omega)
    have HK03 : Hid (Kx 0 [124, 128, 115] w0 W3) := Lib.hid ((Kx.of_below HB1.out).trans (Kx.of_below HB3.out))
    by_cases hc : n = 64
    · have hcz : (n : Int) = 64 := by omega
      have HC := Lib.hid hc
      clear hc
      go_upto_region 16 with fail
      rw [← hW3]
      have z0 : W3.cell? ⟨rA, 0, none⟩ = some (.slice none 0 0) := HR3.out.cell 0
      have z1 : W3.cell? ⟨rA, 1, none⟩ = some (.slice none 0 0) := HR3.out.cell 1
      have z2 : W3.cell? ⟨rA, 2, none⟩ = some (.slice none 0 0) := HR3.out.cell 2
      have z3 : W3.cell? ⟨rA, 3, none⟩ = some (.int .i64 0) := HR3.out.cell 3
      have z4 : W3.cell? ⟨rA, 4, none⟩ = some (.int .i64 0) := HR3.out.cell 4
      have z5 : W3.cell? ⟨rA, 5, none⟩ = some (.int .i64 0) := HR3.out.cell 5
      have y0 := HR3.out.frozen 0
      have y1 := HR3.out.frozen 1
      have y2 := HR3.out.frozen 2
      have y3 := HR3.out.frozen 3
      have y4 := HR3.out.frozen 4
      have y5 := HR3.out.frozen 5
      clear hW3 hba hown
      go_wp2_with fail
      (try simp only [Exit.inBlock, Exit.then])
      have HF : Hid (n = 64 ∧ (bodyF m0 m1 m2 it.cms).isSome = true ∧ Bk ((((((W3.setCell ⟨rA, 0, none⟩ (.slice none 0 0)).setCell ⟨rA, 1, none⟩ (.slice none 0 0)).setCell ⟨rA, 2, none⟩ (.slice none 0 0)).setCell ⟨rA, 3, none⟩ (.int .i64 0)).setCell ⟨rA, 4, none⟩ (.int .i64 0)).setCell ⟨rA, 5, none⟩ (.int .i64 0)) rA 115 #[.slice none 0 0, .slice none 0 0, .slice none 0 0, .int .i64 0, .int .i64 0, .int .i64 0] ∧ Below base w0 ((((((W3.setCell ⟨rA, 0, none⟩ (.slice none 0 0)).setCell ⟨rA, 1, none⟩ (.slice none 0 0)).setCell ⟨rA, 2, none⟩ (.slice none 0 0)).setCell ⟨rA, 3, none⟩ (.int .i64 0)).setCell ⟨rA, 4, none⟩ (.int .i64 0)).setCell ⟨rA, 5, none⟩ (.int .i64 0))) := Lib.hid (by
        refine ⟨HC.out, by rw [← HRR.out]; rfl, set6_bk HR3.out _ _ _ _ _ _, ?_⟩
        have hbx := HB03.out
        (repeat' first | with_reducible exact hbx | with_reducible refine Below.setCell ?_ hrA _))
      first
        | exact HF
        | exact hErr _ _ _ _ _ _ _ _ _ _ _ _ _ _ _ _ _ _ _ _ _ _ _ _ _ _ _ _ _ _ _ _ _ _ _ HF
    · have hcz : (n : Int) ≠ 64 := by omega
      go_upto_region 17 with fail
      rw [← hW3]
      rw [← hba]
      clear hW3 hba hown
      have hei : W3.cell? ⟨ia, 0, none⟩ = some (.int .i64 it.e) := HIA3.out.cell 0
      obtain ⟨W4, hput, hm4, hg4⟩ := HMP3.out.m.put (t := 238) Try.underlying238 (by unfold maxLen; omega) (k := it.e) (v := (n : Int)) HWF.out (wf_small hn64)
      have HKM : Hid (Kx 0 [] W3 W4) := Lib.hid (HMP3.out.m.kx hg4)
      have HM4 := Lib.hid hm4
      have HB34 : Hid (Below base W3 W4) := Lib.hid ⟨hg4.os, hg4.tape, hg4.output, hg4.size, fun x hx => hg4.block x (by have := HB03.out.size; omega) (fun e => by have := HMP3.out.lo; injection e with e; omega)⟩
      have HSZ4 : Hid (base ≤ W4.heap.size) := Lib.hid (by have := HB03.out.size; have := HB34.out.size; omega)
      clear hm4 hg4
      go_upto_region 18 with fail
      clear hput hei
      refine sc18_any (HS1.out.keep (F := []) ((Kx.of_below HB3.out).trans HKM.out) (by simp) (by simp) (by simp) (by simp)) (HKM.out.bk HIA3.out (by simp)) (HKM.out.bk HBA.out (by simp)) (HKM.out.own HBY.out (by simp)) (by rw [← HQ.out]; exact hn64) HSZ4.out HNE.out ?_
      intro z72 z73 z74 z75 z76 z77 z78 z79 z80 z81 z82 gB cB gE cE w5 H5
      have HF : Hid (n < 64 ∧ bodyF m0 m1 m2 it.cms = some b ∧ ScI w5 base sA (some ⟨gB, 0, none⟩) (n + 1) cB (some ⟨gE, 0, none⟩) cE gx gy st (q ++ [(b, (it.e, it.g))]) ∧ ScM w5 base mp (n + 1) (fun j => if j = it.e then some (n : Int) else f j) ∧ Kx 0 [124, 128, 115] w0 w5 ∧ Bk w5 rA 115 #[.slice none 0 0, .slice none 0 0, .slice none 0 0, .int .i64 0, .int .i64 0, .int .i64 0] ∧ Below base w0 w5) := Lib.hid ⟨by omega, HRR.out.symm, H5.out.1, ⟨HM4.out.keep H5.out.2.1, HMP3.out.lo⟩, HK03.out.trans ((HKM.out.mono (Nat.le_refl _) (by simp)).trans H5.out.2.1.kx), H5.out.2.2.2 rA _ hrs (HKM.out.bk HR3.out (by simp)), HB03.out.trans (HB34.out.trans H5.out.2.2.1)⟩
      (try simp only [Exit.inBlock])
      exact hYes _ _ _ _ _ _ _ _ _ _ _ _ _ _ _ _ _ _ _ _ _ _ _ _ _ _ _ _ _ _ _ _ _ _ _ _ _ _ b _ HF
end Go.Proofs.Ytnidcmhfbkdioaa
