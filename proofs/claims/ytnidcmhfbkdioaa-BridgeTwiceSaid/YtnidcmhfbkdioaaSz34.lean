/-
  The drawn region of bridge.Scene: one body more, and its entity. Conditions: none of the code.
-/
import Derived.Test.YtnidcmhfbkdioaaSz33
import Derived.Test.YtnidcmhfbkdioaaSz12
namespace Go.Proofs.Ytnidcmhfbkdioaa
open Go.RowKit
set_option maxRecDepth 100000
structure ScL (w : World) (base : Nat) (l : List Bm) (q : List (Bo × (Int × Int))) (b : Bo) (e g : Int) (g0 cc n : Nat) : Prop where
  len : n = l.length
  ok : ∀ x ∈ l, BmY w base x
  eq : l.map Bm.b = q.map Prod.fst
  n : n = q.length
  new : BmY w base ⟨b, g0, cc⟩
section
variable {P : Program} {ops : Array Oper} {Q : Exit → Act → World → Prop} {md : Region.Mode} {S : World → Prop}
theorem wpAnyH_three {i j k : Nat} {oi oj ok : Oper} {fuel : Nat} {listed : Array Bool} {a : Act} {w : World} (hi : ops[i]? = some oi) (hj : ops[j]? = some oj) (hk : ops[k]? = some ok) (hr : Region.ready md ops listed = [i, j, k]) (hg : Region.wanted oi (yielded ops a.tmps) = true) (hg' : Region.wanted oj (yielded ops a.tmps) = true) (hg2 : Region.wanted ok (yielded ops a.tmps) = true)
    (h1 : oi.wp P a w (fun a' w' => S w' ∧ wpAnyH P md ops Q S fuel (listed.setIfInBounds i true) a' w') Q) (h2 : oj.wp P a w (fun a' w' => S w' ∧ wpAnyH P md ops Q S fuel (listed.setIfInBounds j true) a' w') Q) (h3 : ok.wp P a w (fun a' w' => S w' ∧ wpAnyH P md ops Q S fuel (listed.setIfInBounds k true) a' w') Q) : wpAnyH P md ops Q S (fuel + 1) listed a w :=
  wpAnyH_all hr (by simp) fun m hm => by
    have e : m = i ∨ m = j ∨ m = k := by simpa using hm
    rcases e with rfl | rfl | rfl
    · unfold wpOp
      simp only [hi, hg, if_true]
      exact .inl h1
    · unfold wpOp
      simp only [hj, hg', if_true]
      exact .inl h2
    · unfold wpOp
      simp only [hk, hg2, if_true]
      exact .inl h3
end
theorem sc18_S {w : World} {sA ba ia g0 cc n c iN ic : Nat} {A iA : Option Addr} {gx gy st e g : Int} {b : Bo} {u : Value} (h1 : Bk w sA 115 #[.slice A n c, .slice none 0 0, .slice none 0 0, .int .i64 gx, .int .i64 gy, .int .i64 st]) (h2 : Bk w ba 124 #[.int .i64 b.px, .int .i64 b.py, .int .i64 b.vx, .int .i64 b.vy, .int .i64 b.ang, .int .i64 b.spin, .int .i64 b.mass, .int .i64 b.inr, .int .i64 b.bou, .int .i64 b.rub, .slice (some ⟨g0, 0, none⟩) 4 cc, .bool b.asl, .int .i64 b.calm]) (h3 : Bk w ia 147 #[.int .i64 e, .int .i64 g, .slice iA iN ic]) : (w.setCell ⟨sA, 0, none⟩ u).cell? ⟨ba, 0, none⟩ = some (.int .i64 b.px) ∧ (w.setCell ⟨sA, 0, none⟩ u).cell? ⟨ba, 1, none⟩ = some (.int .i64 b.py) ∧ (w.setCell ⟨sA, 0, none⟩ u).cell? ⟨ba, 2, none⟩ = some (.int .i64 b.vx) ∧ (w.setCell ⟨sA, 0, none⟩ u).cell? ⟨ba, 3, none⟩ = some (.int .i64 b.vy) ∧ (w.setCell ⟨sA, 0, none⟩ u).cell? ⟨ba, 4, none⟩ = some (.int .i64 b.ang) ∧ (w.setCell ⟨sA, 0, none⟩ u).cell? ⟨ba, 5, none⟩ = some (.int .i64 b.spin) ∧ (w.setCell ⟨sA, 0, none⟩ u).cell? ⟨ba, 6, none⟩ = some (.int .i64 b.mass) ∧ (w.setCell ⟨sA, 0, none⟩ u).cell? ⟨ba, 7, none⟩ = some (.int .i64 b.inr) ∧ (w.setCell ⟨sA, 0, none⟩ u).cell? ⟨ba, 8, none⟩ = some (.int .i64 b.bou) ∧ (w.setCell ⟨sA, 0, none⟩ u).cell? ⟨ba, 9, none⟩ = some (.int .i64 b.rub) ∧ (w.setCell ⟨sA, 0, none⟩ u).cell? ⟨ba, 10, none⟩ = some (.slice (some ⟨g0, 0, none⟩) 4 cc) ∧ (w.setCell ⟨sA, 0, none⟩ u).cell? ⟨ba, 11, none⟩ = some (.bool b.asl) ∧ (w.setCell ⟨sA, 0, none⟩ u).cell? ⟨ba, 12, none⟩ = some (.int .i64 b.calm) ∧ (w.setCell ⟨sA, 0, none⟩ u).cell? ⟨ia, 0, none⟩ = some (.int .i64 e) ∧ (w.setCell ⟨sA, 0, none⟩ u).cell? ⟨ia, 1, none⟩ = some (.int .i64 g) := by
  have k2 := h2.far (p := ⟨sA, 0, none⟩) (Bk.ne_ h2 h1 (by decide)) u
  have k3 := h3.far (p := ⟨sA, 0, none⟩) (Bk.ne_ h3 h1 (by decide)) u
  exact ⟨k2.cell 0, k2.cell 1, k2.cell 2, k2.cell 3, k2.cell 4, k2.cell 5, k2.cell 6, k2.cell 7, k2.cell 8, k2.cell 9, k2.cell 10, k2.cell 11, k2.cell 12, k3.cell 0, k3.cell 1⟩
theorem sc18_fin {w0 w : World} {base sA n c gB cB gE cE g0 cc : Nat} {A : Option Addr} {gx gy st e g : Int} {q : List (Bo × (Int × Int))} {l : List Bm} {b : Bo}
    (h1 : Bk w sA 115 #[.slice A n c, .slice none 0 0, .slice none 0 0, .int .i64 gx, .int .i64 gy, .int .i64 st]) (h2 : w.ownsRow base 124 13 (.slice (some ⟨gB, 0, none⟩) (n + 1) cB) (n + 1) (bmCs l ++ #[.int .i64 b.px, .int .i64 b.py, .int .i64 b.vx, .int .i64 b.vy, .int .i64 b.ang, .int .i64 b.spin, .int .i64 b.mass, .int .i64 b.inr, .int .i64 b.bou, .int .i64 b.rub, .slice (some ⟨g0, 0, none⟩) 4 cc, .bool b.asl, .int .i64 b.calm].toList)) (h3 : w.ownsRow base 128 2 (.slice (some ⟨gE, 0, none⟩) (n + 1) cE) (n + 1) (enCs (q.map Prod.snd) ++ #[.int .i64 e, .int .i64 g].toList)) (h4 : Kz [124, 128] w0 w) (h5 : Below base w0 w) (hL : ScL w0 base l q b e g g0 cc n) (hlo : base ≤ sA) :
    ScI (w.setCell ⟨sA, 0, none⟩ (.slice (some ⟨gB, 0, none⟩) (n + 1) cB)) base sA (some ⟨gB, 0, none⟩) (n + 1) cB (some ⟨gE, 0, none⟩) cE gx gy st (q ++ [(b, (e, g))]) ∧ Kz [124, 128, 115] w0 (w.setCell ⟨sA, 0, none⟩ (.slice (some ⟨gB, 0, none⟩) (n + 1) cB)) ∧ Below base w0 (w.setCell ⟨sA, 0, none⟩ (.slice (some ⟨gB, 0, none⟩) (n + 1) cB)) ∧ ∀ g cs, g ≠ sA → Bk w0 g 115 cs → Bk (w.setCell ⟨sA, 0, none⟩ (.slice (some ⟨gB, 0, none⟩) (n + 1) cB)) g 115 cs := by
  have hz : Kz [115] w (w.setCell ⟨sA, 0, none⟩ (.slice (some ⟨gB, 0, none⟩) (n + 1) cB)) := Kz.refl.set h1 (by simp) 0 _
  have hzz : Kz [124, 128, 115] w0 (w.setCell ⟨sA, 0, none⟩ (.slice (some ⟨gB, 0, none⟩) (n + 1) cB)) := (h4.mono (by simp)).trans (hz.mono (by simp))
  refine ⟨⟨by simpa using h1.set_ 0 (.slice (some ⟨gB, 0, none⟩) (n + 1) cB), ⟨l ++ [⟨b, g0, cc⟩], ⟨?_, by simp [hL.len], ?_⟩, by simp [hL.eq]⟩, ?_, by simp [hL.n], hlo⟩, hzz, h5.setCell (p := ⟨sA, 0, none⟩) hlo _, fun g cs hg hb => (h4.kx.bk hb (by decide)).far (p := ⟨sA, 0, none⟩) hg _⟩
  · have := hz.kx.own h2 (by decide)
    rw [bmCs_app]
    simpa [bmCs, Bm.cs, Bo.v] using this
  · intro x hx
    have hx : x ∈ l ∨ x = ⟨b, g0, cc⟩ := by simpa using hx
    have hk : BmY w0 base x := by
      rcases hx with hx | rfl
      · exact hL.ok x hx
      · exact hL.new
    exact hzz.kx.own hk (by decide)
  · have := hz.kx.own h3 (by decide)
    rw [List.map_append, enCs_app]
    simpa [enCs] using this
set_option maxHeartbeats 8000000 in
theorem sc18_any {x0 x1 x2 x3 x4 x5 x6 x7 x8 x9 x10 x11 x12 x13 x16 x17 x20 x21 x22 x23 x24 x25 x26 x27 x28 x29 x30 x31 x32 x33 x34 x35 x36 x37 x38 x39 x40 x41 x42 x43 x44 x45 x46 x47 x48 x49 x50 x51 x52 x53 x54 x55 x56 x57 x58 x59 x60 x61 x62 x63 x64 x65 x66 x67 x68 x69 x70 x71 x72 x73 x74 x75 x76 x77 x78 x79 x80 x81 x82 x83 x84 x85 x86 x87 x88 x89 x90 x91 x92 x93 x94 x95 x96 x97 x98 x99 x100 x101 x102 x103 x104 x105 x106 x107 x108 x109 x110 x111 x112 x113 x114 x115 x116 x117 x118 x119 x120 : Value} {Q : Exit → Act → World → Prop} {w0 : World} {base sA n c ec ia ba ic iN g0 cc : Nat} {A E iA : Option Addr} {gx gy st e g : Int} {q : List (Bo × (Int × Int))} {b : Bo}
    (hS : ScI w0 base sA A n c E ec gx gy st q) (hi : Bk w0 ia 147 #[.int .i64 e, .int .i64 g, .slice iA iN ic]) (hb : Bk w0 ba 124 #[.int .i64 b.px, .int .i64 b.py, .int .i64 b.vx, .int .i64 b.vy, .int .i64 b.ang, .int .i64 b.spin, .int .i64 b.mass, .int .i64 b.inr, .int .i64 b.bou, .int .i64 b.rub, .slice (some ⟨g0, 0, none⟩) 4 cc, .bool b.asl, .int .i64 b.calm]) (hY : BmY w0 base ⟨b, g0, cc⟩) (hq : q.length ≤ 64) (hbase : base ≤ w0.heap.size) (hne : (Value.slice A n c).ownBlock ≠ some ba)
    (hN : ∀ (y72 y73 y74 y75 y76 y77 y78 y79 y80 y81 y82 : Value) (gB cB gE cE : Nat) (w' : World), Hid (ScI w' base sA (some ⟨gB, 0, none⟩) (n + 1) cB (some ⟨gE, 0, none⟩) cE gx gy st (q ++ [(b, (e, g))]) ∧ Kz [124, 128, 115] w0 w' ∧ Below base w0 w' ∧ ∀ g cs, g ≠ sA → Bk w0 g 115 cs → Bk w' g 115 cs) → Q .normal ⟨#[x0, x1, x2, x3, x4, x5, x6, x7, x8, x9, x10, x11, x12, x13, .pointer (some ⟨sA, 0, none⟩), .slice (some ⟨gE, 0, none⟩) (n + 1) cE, x16, x17, .pointer (some ⟨ia, 0, none⟩), .pointer (some ⟨ba, 0, none⟩), x20, x21, x22, x23, x24, x25, x26, x27, x28, x29, x30, x31, x32, x33, x34, x35, x36, x37, x38, x39, x40, x41, x42, x43, x44, x45, x46, x47, x48, x49, x50, x51, x52, x53, x54, x55, x56, x57, x58, x59, x60, x61, x62, x63, x64, x65, x66, x67, x68, x69, x70, x71, y72, y73, y74, y75, y76, y77, y78, y79, y80, y81, y82, x83, x84, x85, x86, x87, x88, x89, x90, x91, x92, x93, x94, x95, x96, x97, x98, x99, x100, x101, x102, x103, x104, x105, x106, x107, x108, x109, x110, x111, x112, x113, x114, x115, x116, x117, x118, x119, x120], []⟩ w') :
    Code.wp Try.prog scR18 Q ⟨#[x0, x1, x2, x3, x4, x5, x6, x7, x8, x9, x10, x11, x12, x13, .pointer (some ⟨sA, 0, none⟩), .slice E n ec, x16, x17, .pointer (some ⟨ia, 0, none⟩), .pointer (some ⟨ba, 0, none⟩), x20, x21, x22, x23, x24, x25, x26, x27, x28, x29, x30, x31, x32, x33, x34, x35, x36, x37, x38, x39, x40, x41, x42, x43, x44, x45, x46, x47, x48, x49, x50, x51, x52, x53, x54, x55, x56, x57, x58, x59, x60, x61, x62, x63, x64, x65, x66, x67, x68, x69, x70, x71, x72, x73, x74, x75, x76, x77, x78, x79, x80, x81, x82, x83, x84, x85, x86, x87, x88, x89, x90, x91, x92, x93, x94, x95, x96, x97, x98, x99, x100, x101, x102, x103, x104, x105, x106, x107, x108, x109, x110, x111, x112, x113, x114, x115, x116, x117, x118, x119, x120], []⟩ w0 := by
  conv => arg 2; whnf
  obtain ⟨iB, hiB, hB0, hB1, hB2⟩ := info_parts T.info124
  obtain ⟨iE, hiE, hE0, hE1, hE2⟩ := info_parts T.info128
  obtain ⟨l, hl, hlq⟩ := hS.bm
  have HL : Hid (ScL w0 base l q b e g g0 cc n) := Lib.hid ⟨hl.len, hl.ok, hlq, hS.len, hY⟩
  have hn64 : n ≤ 64 := by rw [hS.len]; exact hq
  have HLO : Hid (base ≤ sA) := Lib.hid hS.lo
  obtain ⟨u0, hu0⟩ : ∃ z, z = w0.drew := ⟨_, rfl⟩
  have HRu0 : Hid (Bk u0 sA 115 #[.slice A n c, .slice none 0 0, .slice none 0 0, .int .i64 gx, .int .i64 gy, .int .i64 st] ∧ Bk u0 ba 124 #[.int .i64 b.px, .int .i64 b.py, .int .i64 b.vx, .int .i64 b.vy, .int .i64 b.ang, .int .i64 b.spin, .int .i64 b.mass, .int .i64 b.inr, .int .i64 b.bou, .int .i64 b.rub, .slice (some ⟨g0, 0, none⟩) 4 cc, .bool b.asl, .int .i64 b.calm] ∧ Bk u0 ia 147 #[.int .i64 e, .int .i64 g, .slice iA iN ic] ∧ Kz [124, 128] w0 u0 ∧ Below base w0 u0) := Lib.hid (by rw [hu0]; exact ⟨hS.s.drew, hb.drew, hi.drew, Kz.refl.drew, (Below.refl _ _).drew⟩)
  have HBu0 : Hid (u0.ownsRow base 124 13 (.slice A n c) n (bmCs l)) := Lib.hid (by rw [hu0]; exact (Kx.refl (B := 0) (F := [])).drew.own hl.own (by simp))
  have HEu0 : Hid (u0.ownsRow base 128 2 (.slice E n ec) n (enCs (q.map Prod.snd))) := Lib.hid (by rw [hu0]; exact (Kx.refl (B := 0) (F := [])).drew.own hS.en (by simp))
  have HS2 : Hid (∀ wz, (Bk wz sA 115 #[.slice A n c, .slice none 0 0, .slice none 0 0, .int .i64 gx, .int .i64 gy, .int .i64 st] ∧ Bk wz ba 124 #[.int .i64 b.px, .int .i64 b.py, .int .i64 b.vx, .int .i64 b.vy, .int .i64 b.ang, .int .i64 b.spin, .int .i64 b.mass, .int .i64 b.inr, .int .i64 b.bou, .int .i64 b.rub, .slice (some ⟨g0, 0, none⟩) 4 cc, .bool b.asl, .int .i64 b.calm] ∧ Bk wz ia 147 #[.int .i64 e, .int .i64 g, .slice iA iN ic] ∧ Kz [124, 128] w0 wz ∧ Below base w0 wz) → wz.cell? ⟨ba, 0, none⟩ = some (.int .i64 b.px) ∧ wz.cell? ⟨ba, 1, none⟩ = some (.int .i64 b.py) ∧ wz.cell? ⟨ba, 2, none⟩ = some (.int .i64 b.vx) ∧ wz.cell? ⟨ba, 3, none⟩ = some (.int .i64 b.vy) ∧ wz.cell? ⟨ba, 4, none⟩ = some (.int .i64 b.ang) ∧ wz.cell? ⟨ba, 5, none⟩ = some (.int .i64 b.spin) ∧ wz.cell? ⟨ba, 6, none⟩ = some (.int .i64 b.mass) ∧ wz.cell? ⟨ba, 7, none⟩ = some (.int .i64 b.inr) ∧ wz.cell? ⟨ba, 8, none⟩ = some (.int .i64 b.bou) ∧ wz.cell? ⟨ba, 9, none⟩ = some (.int .i64 b.rub) ∧ wz.cell? ⟨ba, 10, none⟩ = some (.slice (some ⟨g0, 0, none⟩) 4 cc) ∧ wz.cell? ⟨ba, 11, none⟩ = some (.bool b.asl) ∧ wz.cell? ⟨ba, 12, none⟩ = some (.int .i64 b.calm) ∧ wz.cell? ⟨ia, 0, none⟩ = some (.int .i64 e) ∧ wz.cell? ⟨ia, 1, none⟩ = some (.int .i64 g)) := Lib.hid fun wz h => ⟨h.2.1.cell 0, h.2.1.cell 1, h.2.1.cell 2, h.2.1.cell 3, h.2.1.cell 4, h.2.1.cell 5, h.2.1.cell 6, h.2.1.cell 7, h.2.1.cell 8, h.2.1.cell 9, h.2.1.cell 10, h.2.1.cell 11, h.2.1.cell 12, h.2.2.1.cell 0, h.2.2.1.cell 1⟩
  clear hS hi hb hY hl hlq hq
  refine wp_region_noPanic ?_
  refine wp_region_H (S := fun wz => wz.cell? ⟨ba, 0, none⟩ = some (.int .i64 b.px) ∧ wz.cell? ⟨ba, 1, none⟩ = some (.int .i64 b.py) ∧ wz.cell? ⟨ba, 2, none⟩ = some (.int .i64 b.vx) ∧ wz.cell? ⟨ba, 3, none⟩ = some (.int .i64 b.vy) ∧ wz.cell? ⟨ba, 4, none⟩ = some (.int .i64 b.ang) ∧ wz.cell? ⟨ba, 5, none⟩ = some (.int .i64 b.spin) ∧ wz.cell? ⟨ba, 6, none⟩ = some (.int .i64 b.mass) ∧ wz.cell? ⟨ba, 7, none⟩ = some (.int .i64 b.inr) ∧ wz.cell? ⟨ba, 8, none⟩ = some (.int .i64 b.bou) ∧ wz.cell? ⟨ba, 9, none⟩ = some (.int .i64 b.rub) ∧ wz.cell? ⟨ba, 10, none⟩ = some (.slice (some ⟨g0, 0, none⟩) 4 cc) ∧ wz.cell? ⟨ba, 11, none⟩ = some (.bool b.asl) ∧ wz.cell? ⟨ba, 12, none⟩ = some (.int .i64 b.calm) ∧ wz.cell? ⟨ia, 0, none⟩ = some (.int .i64 e) ∧ wz.cell? ⟨ia, 1, none⟩ = some (.int .i64 g)) (by kernel_rfl) ?_
  rw [← hu0]
  clear hu0
  refine wpAnyH_val (i := 0) (v := .pointer (some ⟨sA, 0, none⟩)) (d := some 72) rfl rfl (by kernel_rfl) (by kernel_rfl) (by kernel_rfl) (fun _ _ _ h => h) (Or.inl ⟨by rfl, fun w hS => by (obtain ⟨h0, h1, h2, h3, h4, h5, h6, h7, h8, h9, h10, h11, h12, h13, h14⟩ := hS; go_simp)⟩) (HS2.out _ HRu0.out) ?_
  (try simp only [Act.put, List.setIfInBounds_toArray, List.set_cons_zero, List.set_cons_succ])
  refine wpAnyH_val (i := 2) (v := .agg #[.int .i64 b.px, .int .i64 b.py, .int .i64 b.vx, .int .i64 b.vy, .int .i64 b.ang, .int .i64 b.spin, .int .i64 b.mass, .int .i64 b.inr, .int .i64 b.bou, .int .i64 b.rub, .slice (some ⟨g0, 0, none⟩) 4 cc, .bool b.asl, .int .i64 b.calm]) (d := some 74) rfl rfl (by kernel_rfl) (by kernel_rfl) (by kernel_rfl) (fun _ _ _ h => h) (Or.inl ⟨by rfl, fun w hS => by (obtain ⟨h0, h1, h2, h3, h4, h5, h6, h7, h8, h9, h10, h11, h12, h13, h14⟩ := hS; go_simp)⟩) (HS2.out _ HRu0.out) ?_
  (try simp only [Act.put, List.setIfInBounds_toArray, List.set_cons_zero, List.set_cons_succ])
  refine wpAnyH_val (i := 5) (v := .slice E n ec) (d := some 77) rfl rfl (by kernel_rfl) (by kernel_rfl) (by kernel_rfl) (fun _ _ _ h => h) (Or.inl ⟨by rfl, fun w hS => by (obtain ⟨h0, h1, h2, h3, h4, h5, h6, h7, h8, h9, h10, h11, h12, h13, h14⟩ := hS; go_simp)⟩) (HS2.out _ HRu0.out) ?_
  (try simp only [Act.put, List.setIfInBounds_toArray, List.set_cons_zero, List.set_cons_succ])
  refine wpAnyH_val (i := 6) (v := .pointer (some ⟨ia, 0, none⟩)) (d := some 78) rfl rfl (by kernel_rfl) (by kernel_rfl) (by kernel_rfl) (fun _ _ _ h => h) (Or.inl ⟨by rfl, fun w hS => by (obtain ⟨h0, h1, h2, h3, h4, h5, h6, h7, h8, h9, h10, h11, h12, h13, h14⟩ := hS; go_simp)⟩) (HS2.out _ HRu0.out) ?_
  (try simp only [Act.put, List.setIfInBounds_toArray, List.set_cons_zero, List.set_cons_succ])
  refine wpAnyH_val (i := 7) (v := .agg #[.int .i64 e, .int .i64 g]) (d := some 79) rfl rfl (by kernel_rfl) (by kernel_rfl) (by kernel_rfl) (fun _ _ _ h => h) (Or.inl ⟨by rfl, fun w hS => by (obtain ⟨h0, h1, h2, h3, h4, h5, h6, h7, h8, h9, h10, h11, h12, h13, h14⟩ := hS; go_simp)⟩) (HS2.out _ HRu0.out) ?_
  (try simp only [Act.put, List.setIfInBounds_toArray, List.set_cons_zero, List.set_cons_succ])
  refine wpAnyH_three (i := 1) (j := 3) (k := 8) rfl rfl rfl (by kernel_rfl) (by rfl) (by rfl) (by rfl) ?_ ?_ ?_
  · have qL : u0.cell? ⟨sA, 0, none⟩ = some (.slice A n c) := HRu0.out.1.cell 0
    go_simp
    refine And.intro (HS2.out _ HRu0.out) ?_
    (try simp only [Act.put, List.setIfInBounds_toArray, List.set_cons_zero, List.set_cons_succ])
    clear qL
    refine wpAnyH_two (i := 3) (j := 8) rfl rfl (by kernel_rfl) (by rfl) (by rfl) ?_ ?_
    · go_simp
      obtain ⟨nb, hnb⟩ : ∃ z, z = u0.heap.size := ⟨_, rfl⟩
      obtain ⟨v0, hv0⟩ : ∃ z, z = u0.alloc (.cells #[.int .i64 b.px, .int .i64 b.py, .int .i64 b.vx, .int .i64 b.vy, .int .i64 b.ang, .int .i64 b.spin, .int .i64 b.mass, .int .i64 b.inr, .int .i64 b.bou, .int .i64 b.rub, .slice (some ⟨g0, 0, none⟩) 4 cc, .bool b.asl, .int .i64 b.calm] 124) := ⟨_, rfl⟩
      have HRv0 : Hid (Bk v0 sA 115 #[.slice A n c, .slice none 0 0, .slice none 0 0, .int .i64 gx, .int .i64 gy, .int .i64 st] ∧ Bk v0 ba 124 #[.int .i64 b.px, .int .i64 b.py, .int .i64 b.vx, .int .i64 b.vy, .int .i64 b.ang, .int .i64 b.spin, .int .i64 b.mass, .int .i64 b.inr, .int .i64 b.bou, .int .i64 b.rub, .slice (some ⟨g0, 0, none⟩) 4 cc, .bool b.asl, .int .i64 b.calm] ∧ Bk v0 ia 147 #[.int .i64 e, .int .i64 g, .slice iA iN ic] ∧ Kz [124, 128] w0 v0 ∧ Below base w0 v0) := Lib.hid (by rw [hv0]; obtain ⟨r1, r2, r3, r4, r5⟩ := HRu0.out; exact ⟨r1.alloc _, r2.alloc _, r3.alloc _, r4.alloc _, r5.alloc (Nat.le_trans hbase r5.size) _⟩)
      have HBv0 : Hid (v0.ownsRow base 124 13 (.slice A n c) n (bmCs l)) := Lib.hid (by rw [hv0]; exact HBu0.out.alloc _)
      have HEv0 : Hid (v0.ownsRow base 128 2 (.slice E n ec) n (enCs (q.map Prod.snd))) := Lib.hid (by rw [hv0]; exact HEu0.out.alloc _)
      have Hnbv0 : Hid (Bk v0 nb 124 #[.int .i64 b.px, .int .i64 b.py, .int .i64 b.vx, .int .i64 b.vy, .int .i64 b.ang, .int .i64 b.spin, .int .i64 b.mass, .int .i64 b.inr, .int .i64 b.bou, .int .i64 b.rub, .slice (some ⟨g0, 0, none⟩) 4 cc, .bool b.asl, .int .i64 b.calm]) := Lib.hid (by rw [hv0, hnb]; exact Bk.new _ _ _)
      rw [← hv0, ← hnb]
      clear hv0 hnb
      refine And.intro (HS2.out _ HRv0.out) ?_
      (try simp only [Act.put, List.setIfInBounds_toArray, List.set_cons_zero, List.set_cons_succ])
      refine wpAnyH_two (i := 4) (j := 8) rfl rfl (by kernel_rfl) (by rfl) (by rfl) ?_ ?_
      · refine wp_append_one (.tmp 73) (.tmp 75) 112 rfl base 124 iB (.agg #[.int .i64 0, .int .i64 0, .int .i64 0, .int .i64 0, .int .i64 0, .int .i64 0, .int .i64 0, .int .i64 0, .int .i64 0, .int .i64 0, .slice none 0 0, .bool false, .int .i64 0]) 13 120 Try.underlying112 hiB hB0 hB1 hB2 rfl (by decide) (.slice A n c) n (bmCs l) rfl HBv0.out nb 1 124 #[.int .i64 b.px, .int .i64 b.py, .int .i64 b.vx, .int .i64 b.vy, .int .i64 b.ang, .int .i64 b.spin, .int .i64 b.mass, .int .i64 b.inr, .int .i64 b.bou, .int .i64 b.rub, .slice (some ⟨g0, 0, none⟩) 4 cc, .bool b.asl, .int .i64 b.calm] rfl Hnbv0.out rfl (by simp [Value.oneCell']) (n + 1) rfl (by unfold maxLen; omega) (by omega) (Nat.le_trans hbase HRv0.out.2.2.2.2.size) ?_
        intro gB cB v1 hown hgr hat
        have HRv1 : Hid (Bk v1 sA 115 #[.slice A n c, .slice none 0 0, .slice none 0 0, .int .i64 gx, .int .i64 gy, .int .i64 st] ∧ Bk v1 ba 124 #[.int .i64 b.px, .int .i64 b.py, .int .i64 b.vx, .int .i64 b.vy, .int .i64 b.ang, .int .i64 b.spin, .int .i64 b.mass, .int .i64 b.inr, .int .i64 b.bou, .int .i64 b.rub, .slice (some ⟨g0, 0, none⟩) 4 cc, .bool b.asl, .int .i64 b.calm] ∧ Bk v1 ia 147 #[.int .i64 e, .int .i64 g, .slice iA iN ic] ∧ Kz [124, 128] w0 v1 ∧ Below base w0 v1) := Lib.hid (by obtain ⟨r1, r2, r3, r4, r5⟩ := HRv0.out; exact ⟨r1.grown hgr (fun e => own_ne HBv0.out r1 (by decide) e.symm), r2.grown hgr (fun e => hne e.symm), r3.grown hgr (fun e => own_ne HBv0.out r3 (by decide) e.symm), r4.grown HBv0.out hgr (by simp), r5.trans (grown_below HBv0.out hgr (Nat.le_trans hbase r5.size))⟩)
        have HBv1 : Hid (v1.ownsRow base 124 13 (.slice (some ⟨gB, 0, none⟩) (n + 1) cB) (n + 1) (bmCs l ++ #[.int .i64 b.px, .int .i64 b.py, .int .i64 b.vx, .int .i64 b.vy, .int .i64 b.ang, .int .i64 b.spin, .int .i64 b.mass, .int .i64 b.inr, .int .i64 b.bou, .int .i64 b.rub, .slice (some ⟨g0, 0, none⟩) 4 cc, .bool b.asl, .int .i64 b.calm].toList)) := Lib.hid hown
        have HEv1 : Hid (v1.ownsRow base 128 2 (.slice E n ec) n (enCs (q.map Prod.snd))) := Lib.hid (((Kx.refl (B := 0) (F := [124])).grown HBv0.out hgr (Nat.zero_le _) (by simp)).own HEv0.out (by decide))
        clear hown hgr hat
        refine And.intro (HS2.out _ HRv1.out) ?_
        (try simp only [Act.put, List.setIfInBounds_toArray])
        refine wpAnyH_val (i := 10) (v := .pointer (some ⟨sA, 0, none⟩)) (d := some 82) rfl rfl (by kernel_rfl) (by kernel_rfl) (by kernel_rfl) (fun _ _ _ h => h) (Or.inl ⟨by rfl, fun w hS => by (obtain ⟨h0, h1, h2, h3, h4, h5, h6, h7, h8, h9, h10, h11, h12, h13, h14⟩ := hS; go_simp)⟩) (HS2.out _ HRv1.out) ?_
        (try simp only [Act.put])
        refine wpAnyH_oneW (i := 8) rfl (by kernel_rfl) (by rfl) ?_
        go_simp
        obtain ⟨ne, hne⟩ : ∃ z, z = v1.heap.size := ⟨_, rfl⟩
        obtain ⟨v2, hv2⟩ : ∃ z, z = v1.alloc (.cells #[.int .i64 e, .int .i64 g] 128) := ⟨_, rfl⟩
        have HRv2 : Hid (Bk v2 sA 115 #[.slice A n c, .slice none 0 0, .slice none 0 0, .int .i64 gx, .int .i64 gy, .int .i64 st] ∧ Bk v2 ba 124 #[.int .i64 b.px, .int .i64 b.py, .int .i64 b.vx, .int .i64 b.vy, .int .i64 b.ang, .int .i64 b.spin, .int .i64 b.mass, .int .i64 b.inr, .int .i64 b.bou, .int .i64 b.rub, .slice (some ⟨g0, 0, none⟩) 4 cc, .bool b.asl, .int .i64 b.calm] ∧ Bk v2 ia 147 #[.int .i64 e, .int .i64 g, .slice iA iN ic] ∧ Kz [124, 128] w0 v2 ∧ Below base w0 v2) := Lib.hid (by rw [hv2]; obtain ⟨r1, r2, r3, r4, r5⟩ := HRv1.out; exact ⟨r1.alloc _, r2.alloc _, r3.alloc _, r4.alloc _, r5.alloc (Nat.le_trans hbase r5.size) _⟩)
        have HBv2 : Hid (v2.ownsRow base 124 13 (.slice (some ⟨gB, 0, none⟩) (n + 1) cB) (n + 1) (bmCs l ++ #[.int .i64 b.px, .int .i64 b.py, .int .i64 b.vx, .int .i64 b.vy, .int .i64 b.ang, .int .i64 b.spin, .int .i64 b.mass, .int .i64 b.inr, .int .i64 b.bou, .int .i64 b.rub, .slice (some ⟨g0, 0, none⟩) 4 cc, .bool b.asl, .int .i64 b.calm].toList)) := Lib.hid (by rw [hv2]; exact HBv1.out.alloc _)
        have HEv2 : Hid (v2.ownsRow base 128 2 (.slice E n ec) n (enCs (q.map Prod.snd))) := Lib.hid (by rw [hv2]; exact HEv1.out.alloc _)
        have Hnev2 : Hid (Bk v2 ne 128 #[.int .i64 e, .int .i64 g]) := Lib.hid (by rw [hv2, hne]; exact Bk.new _ _ _)
        rw [← hv2, ← hne]
        clear hv2 hne
        refine And.intro (HS2.out _ HRv2.out) ?_
        (try simp only [Act.put, List.setIfInBounds_toArray, List.set_cons_zero, List.set_cons_succ])
        refine wpAnyH_oneW (i := 9) rfl (by kernel_rfl) (by rfl) ?_
        refine wp_append_one (.tmp 77) (.tmp 80) 116 rfl base 128 iE (.agg #[.int .i64 0, .int .i64 0]) 2 16 Try.underlying116 hiE hE0 hE1 hE2 rfl (by decide) (.slice E n ec) n (enCs (q.map Prod.snd)) rfl HEv2.out ne 1 128 #[.int .i64 e, .int .i64 g] rfl Hnev2.out rfl (by simp [Value.oneCell']) (n + 1) rfl (by unfold maxLen; omega) (by omega) (Nat.le_trans hbase HRv2.out.2.2.2.2.size) ?_
        intro gE cE v3 hown hgr hat
        have HRv3 : Hid (Bk v3 sA 115 #[.slice A n c, .slice none 0 0, .slice none 0 0, .int .i64 gx, .int .i64 gy, .int .i64 st] ∧ Bk v3 ba 124 #[.int .i64 b.px, .int .i64 b.py, .int .i64 b.vx, .int .i64 b.vy, .int .i64 b.ang, .int .i64 b.spin, .int .i64 b.mass, .int .i64 b.inr, .int .i64 b.bou, .int .i64 b.rub, .slice (some ⟨g0, 0, none⟩) 4 cc, .bool b.asl, .int .i64 b.calm] ∧ Bk v3 ia 147 #[.int .i64 e, .int .i64 g, .slice iA iN ic] ∧ Kz [124, 128] w0 v3 ∧ Below base w0 v3) := Lib.hid (by obtain ⟨r1, r2, r3, r4, r5⟩ := HRv2.out; exact ⟨r1.grown hgr (fun e => own_ne HEv2.out r1 (by decide) e.symm), r2.grown hgr (fun e => own_ne HEv2.out r2 (by decide) e.symm), r3.grown hgr (fun e => own_ne HEv2.out r3 (by decide) e.symm), r4.grown HEv2.out hgr (by simp), r5.trans (grown_below HEv2.out hgr (Nat.le_trans hbase r5.size))⟩)
        have HEv3 : Hid (v3.ownsRow base 128 2 (.slice (some ⟨gE, 0, none⟩) (n + 1) cE) (n + 1) (enCs (q.map Prod.snd) ++ #[.int .i64 e, .int .i64 g].toList)) := Lib.hid hown
        have HBv3 : Hid (v3.ownsRow base 124 13 (.slice (some ⟨gB, 0, none⟩) (n + 1) cB) (n + 1) (bmCs l ++ #[.int .i64 b.px, .int .i64 b.py, .int .i64 b.vx, .int .i64 b.vy, .int .i64 b.ang, .int .i64 b.spin, .int .i64 b.mass, .int .i64 b.inr, .int .i64 b.bou, .int .i64 b.rub, .slice (some ⟨g0, 0, none⟩) 4 cc, .bool b.asl, .int .i64 b.calm].toList)) := Lib.hid (((Kx.refl (B := 0) (F := [128])).grown HEv2.out hgr (Nat.zero_le _) (by simp)).own HBv2.out (by decide))
        clear hown hgr hat
        refine And.intro (HS2.out _ HRv3.out) ?_
        (try simp only [Act.put, List.setIfInBounds_toArray])
        have q0 : v3.cell? ⟨sA, 0, none⟩ = some (.slice A n c) := HRv3.out.1.cell 0
        have f0 : v3.frozen? ⟨sA, 0, none⟩ = false := HRv3.out.1.frozen 0
        refine wpAnyH_oneW (i := 11) rfl (by kernel_rfl) (by rfl) ?_
        go_simp
        have hSF := sc18_S HRv3.out.1 HRv3.out.2.1 HRv3.out.2.2.1 (u := .slice (some ⟨gB, 0, none⟩) (n + 1) cB)
        refine And.intro (by (obtain ⟨a0, a1, a2, a3, a4, a5, a6, a7, a8, a9, a10, a11, a12, a13, a14⟩ := hSF; obtain ⟨b0, b1, b2, b3, b4, b5, b6, b7, b8, b9, b10, b11, b12, b13, b14⟩ := HS2.out _ HRv3.out; and_intros <;> assumption)) ?_
        (try simp only [Act.put, List.setIfInBounds_toArray, List.set_cons_zero, List.set_cons_succ])
        refine wpAnyH_oneW (i := 12) rfl (by kernel_rfl) (by rfl) ?_
        go_simp
        refine And.intro (by (obtain ⟨a0, a1, a2, a3, a4, a5, a6, a7, a8, a9, a10, a11, a12, a13, a14⟩ := hSF; obtain ⟨b0, b1, b2, b3, b4, b5, b6, b7, b8, b9, b10, b11, b12, b13, b14⟩ := HS2.out _ HRv3.out; and_intros <;> first | assumption | kernel_rfl)) ?_
        (try simp only [Act.put, List.setIfInBounds_toArray, List.set_cons_zero, List.set_cons_succ])
        clear hSF
        refine NoPanic.normal ?_
        have HF : Hid (ScI (v3.setCell ⟨sA, 0, none⟩ (.slice (some ⟨gB, 0, none⟩) (n + 1) cB)) base sA (some ⟨gB, 0, none⟩) (n + 1) cB (some ⟨gE, 0, none⟩) cE gx gy st (q ++ [(b, (e, g))]) ∧ Kz [124, 128, 115] w0 (v3.setCell ⟨sA, 0, none⟩ (.slice (some ⟨gB, 0, none⟩) (n + 1) cB)) ∧ Below base w0 (v3.setCell ⟨sA, 0, none⟩ (.slice (some ⟨gB, 0, none⟩) (n + 1) cB)) ∧ ∀ g cs, g ≠ sA → Bk w0 g 115 cs → Bk (v3.setCell ⟨sA, 0, none⟩ (.slice (some ⟨gB, 0, none⟩) (n + 1) cB)) g 115 cs) := Lib.hid (sc18_fin HRv3.out.1 HBv3.out HEv3.out HRv3.out.2.2.2.1 HRv3.out.2.2.2.2 HL.out HLO.out)
        exact hN _ _ _ _ _ _ _ _ _ _ _ _ _ _ _ _ HF
      · go_simp
        obtain ⟨ne, hne⟩ : ∃ z, z = v0.heap.size := ⟨_, rfl⟩
        obtain ⟨v1, hv1⟩ : ∃ z, z = v0.alloc (.cells #[.int .i64 e, .int .i64 g] 128) := ⟨_, rfl⟩
        have HRv1 : Hid (Bk v1 sA 115 #[.slice A n c, .slice none 0 0, .slice none 0 0, .int .i64 gx, .int .i64 gy, .int .i64 st] ∧ Bk v1 ba 124 #[.int .i64 b.px, .int .i64 b.py, .int .i64 b.vx, .int .i64 b.vy, .int .i64 b.ang, .int .i64 b.spin, .int .i64 b.mass, .int .i64 b.inr, .int .i64 b.bou, .int .i64 b.rub, .slice (some ⟨g0, 0, none⟩) 4 cc, .bool b.asl, .int .i64 b.calm] ∧ Bk v1 ia 147 #[.int .i64 e, .int .i64 g, .slice iA iN ic] ∧ Kz [124, 128] w0 v1 ∧ Below base w0 v1) := Lib.hid (by rw [hv1]; obtain ⟨r1, r2, r3, r4, r5⟩ := HRv0.out; exact ⟨r1.alloc _, r2.alloc _, r3.alloc _, r4.alloc _, r5.alloc (Nat.le_trans hbase r5.size) _⟩)
        have HBv1 : Hid (v1.ownsRow base 124 13 (.slice A n c) n (bmCs l)) := Lib.hid (by rw [hv1]; exact HBv0.out.alloc _)
        have HEv1 : Hid (v1.ownsRow base 128 2 (.slice E n ec) n (enCs (q.map Prod.snd))) := Lib.hid (by rw [hv1]; exact HEv0.out.alloc _)
        have Hnev1 : Hid (Bk v1 ne 128 #[.int .i64 e, .int .i64 g]) := Lib.hid (by rw [hv1, hne]; exact Bk.new _ _ _)
        have Hnbv1 : Hid (Bk v1 nb 124 #[.int .i64 b.px, .int .i64 b.py, .int .i64 b.vx, .int .i64 b.vy, .int .i64 b.ang, .int .i64 b.spin, .int .i64 b.mass, .int .i64 b.inr, .int .i64 b.bou, .int .i64 b.rub, .slice (some ⟨g0, 0, none⟩) 4 cc, .bool b.asl, .int .i64 b.calm]) := Lib.hid (by rw [hv1]; exact Hnbv0.out.alloc _)
        rw [← hv1, ← hne]
        clear hv1 hne
        refine And.intro (HS2.out _ HRv1.out) ?_
        (try simp only [Act.put, List.setIfInBounds_toArray, List.set_cons_zero, List.set_cons_succ])
        refine wpAnyH_oneW (i := 4) rfl (by kernel_rfl) (by rfl) ?_
        refine wp_append_one (.tmp 73) (.tmp 75) 112 rfl base 124 iB (.agg #[.int .i64 0, .int .i64 0, .int .i64 0, .int .i64 0, .int .i64 0, .int .i64 0, .int .i64 0, .int .i64 0, .int .i64 0, .int .i64 0, .slice none 0 0, .bool false, .int .i64 0]) 13 120 Try.underlying112 hiB hB0 hB1 hB2 rfl (by decide) (.slice A n c) n (bmCs l) rfl HBv1.out nb 1 124 #[.int .i64 b.px, .int .i64 b.py, .int .i64 b.vx, .int .i64 b.vy, .int .i64 b.ang, .int .i64 b.spin, .int .i64 b.mass, .int .i64 b.inr, .int .i64 b.bou, .int .i64 b.rub, .slice (some ⟨g0, 0, none⟩) 4 cc, .bool b.asl, .int .i64 b.calm] rfl Hnbv1.out rfl (by simp [Value.oneCell']) (n + 1) rfl (by unfold maxLen; omega) (by omega) (Nat.le_trans hbase HRv1.out.2.2.2.2.size) ?_
        intro gB cB v2 hown hgr hat
        have HRv2 : Hid (Bk v2 sA 115 #[.slice A n c, .slice none 0 0, .slice none 0 0, .int .i64 gx, .int .i64 gy, .int .i64 st] ∧ Bk v2 ba 124 #[.int .i64 b.px, .int .i64 b.py, .int .i64 b.vx, .int .i64 b.vy, .int .i64 b.ang, .int .i64 b.spin, .int .i64 b.mass, .int .i64 b.inr, .int .i64 b.bou, .int .i64 b.rub, .slice (some ⟨g0, 0, none⟩) 4 cc, .bool b.asl, .int .i64 b.calm] ∧ Bk v2 ia 147 #[.int .i64 e, .int .i64 g, .slice iA iN ic] ∧ Kz [124, 128] w0 v2 ∧ Below base w0 v2) := Lib.hid (by obtain ⟨r1, r2, r3, r4, r5⟩ := HRv1.out; exact ⟨r1.grown hgr (fun e => own_ne HBv1.out r1 (by decide) e.symm), r2.grown hgr (fun e => hne e.symm), r3.grown hgr (fun e => own_ne HBv1.out r3 (by decide) e.symm), r4.grown HBv1.out hgr (by simp), r5.trans (grown_below HBv1.out hgr (Nat.le_trans hbase r5.size))⟩)
        have HBv2 : Hid (v2.ownsRow base 124 13 (.slice (some ⟨gB, 0, none⟩) (n + 1) cB) (n + 1) (bmCs l ++ #[.int .i64 b.px, .int .i64 b.py, .int .i64 b.vx, .int .i64 b.vy, .int .i64 b.ang, .int .i64 b.spin, .int .i64 b.mass, .int .i64 b.inr, .int .i64 b.bou, .int .i64 b.rub, .slice (some ⟨g0, 0, none⟩) 4 cc, .bool b.asl, .int .i64 b.calm].toList)) := Lib.hid hown
        have HEv2 : Hid (v2.ownsRow base 128 2 (.slice E n ec) n (enCs (q.map Prod.snd))) := Lib.hid (((Kx.refl (B := 0) (F := [124])).grown HBv1.out hgr (Nat.zero_le _) (by simp)).own HEv1.out (by decide))
        have Hnev2 : Hid (Bk v2 ne 128 #[.int .i64 e, .int .i64 g]) := Lib.hid (Hnev1.out.grown hgr (fun e => own_ne HBv1.out Hnev1.out (by decide) e.symm))
        clear hown hgr hat
        refine And.intro (HS2.out _ HRv2.out) ?_
        (try simp only [Act.put, List.setIfInBounds_toArray])
        refine wpAnyH_val (i := 10) (v := .pointer (some ⟨sA, 0, none⟩)) (d := some 82) rfl rfl (by kernel_rfl) (by kernel_rfl) (by kernel_rfl) (fun _ _ _ h => h) (Or.inl ⟨by rfl, fun w hS => by (obtain ⟨h0, h1, h2, h3, h4, h5, h6, h7, h8, h9, h10, h11, h12, h13, h14⟩ := hS; go_simp)⟩) (HS2.out _ HRv2.out) ?_
        (try simp only [Act.put])
        refine wpAnyH_oneW (i := 9) rfl (by kernel_rfl) (by rfl) ?_
        refine wp_append_one (.tmp 77) (.tmp 80) 116 rfl base 128 iE (.agg #[.int .i64 0, .int .i64 0]) 2 16 Try.underlying116 hiE hE0 hE1 hE2 rfl (by decide) (.slice E n ec) n (enCs (q.map Prod.snd)) rfl HEv2.out ne 1 128 #[.int .i64 e, .int .i64 g] rfl Hnev2.out rfl (by simp [Value.oneCell']) (n + 1) rfl (by unfold maxLen; omega) (by omega) (Nat.le_trans hbase HRv2.out.2.2.2.2.size) ?_
        intro gE cE v3 hown hgr hat
        have HRv3 : Hid (Bk v3 sA 115 #[.slice A n c, .slice none 0 0, .slice none 0 0, .int .i64 gx, .int .i64 gy, .int .i64 st] ∧ Bk v3 ba 124 #[.int .i64 b.px, .int .i64 b.py, .int .i64 b.vx, .int .i64 b.vy, .int .i64 b.ang, .int .i64 b.spin, .int .i64 b.mass, .int .i64 b.inr, .int .i64 b.bou, .int .i64 b.rub, .slice (some ⟨g0, 0, none⟩) 4 cc, .bool b.asl, .int .i64 b.calm] ∧ Bk v3 ia 147 #[.int .i64 e, .int .i64 g, .slice iA iN ic] ∧ Kz [124, 128] w0 v3 ∧ Below base w0 v3) := Lib.hid (by obtain ⟨r1, r2, r3, r4, r5⟩ := HRv2.out; exact ⟨r1.grown hgr (fun e => own_ne HEv2.out r1 (by decide) e.symm), r2.grown hgr (fun e => own_ne HEv2.out r2 (by decide) e.symm), r3.grown hgr (fun e => own_ne HEv2.out r3 (by decide) e.symm), r4.grown HEv2.out hgr (by simp), r5.trans (grown_below HEv2.out hgr (Nat.le_trans hbase r5.size))⟩)
        have HEv3 : Hid (v3.ownsRow base 128 2 (.slice (some ⟨gE, 0, none⟩) (n + 1) cE) (n + 1) (enCs (q.map Prod.snd) ++ #[.int .i64 e, .int .i64 g].toList)) := Lib.hid hown
        have HBv3 : Hid (v3.ownsRow base 124 13 (.slice (some ⟨gB, 0, none⟩) (n + 1) cB) (n + 1) (bmCs l ++ #[.int .i64 b.px, .int .i64 b.py, .int .i64 b.vx, .int .i64 b.vy, .int .i64 b.ang, .int .i64 b.spin, .int .i64 b.mass, .int .i64 b.inr, .int .i64 b.bou, .int .i64 b.rub, .slice (some ⟨g0, 0, none⟩) 4 cc, .bool b.asl, .int .i64 b.calm].toList)) := Lib.hid (((Kx.refl (B := 0) (F := [128])).grown HEv2.out hgr (Nat.zero_le _) (by simp)).own HBv2.out (by decide))
        clear hown hgr hat
        refine And.intro (HS2.out _ HRv3.out) ?_
        (try simp only [Act.put])
        have q0 : v3.cell? ⟨sA, 0, none⟩ = some (.slice A n c) := HRv3.out.1.cell 0
        have f0 : v3.frozen? ⟨sA, 0, none⟩ = false := HRv3.out.1.frozen 0
        refine wpAnyH_oneW (i := 11) rfl (by kernel_rfl) (by rfl) ?_
        go_simp
        have hSF := sc18_S HRv3.out.1 HRv3.out.2.1 HRv3.out.2.2.1 (u := .slice (some ⟨gB, 0, none⟩) (n + 1) cB)
        refine And.intro (by (obtain ⟨a0, a1, a2, a3, a4, a5, a6, a7, a8, a9, a10, a11, a12, a13, a14⟩ := hSF; obtain ⟨b0, b1, b2, b3, b4, b5, b6, b7, b8, b9, b10, b11, b12, b13, b14⟩ := HS2.out _ HRv3.out; and_intros <;> assumption)) ?_
        (try simp only [Act.put, List.setIfInBounds_toArray, List.set_cons_zero, List.set_cons_succ])
        refine wpAnyH_oneW (i := 12) rfl (by kernel_rfl) (by rfl) ?_
        go_simp
        refine And.intro (by (obtain ⟨a0, a1, a2, a3, a4, a5, a6, a7, a8, a9, a10, a11, a12, a13, a14⟩ := hSF; obtain ⟨b0, b1, b2, b3, b4, b5, b6, b7, b8, b9, b10, b11, b12, b13, b14⟩ := HS2.out _ HRv3.out; and_intros <;> first | assumption | kernel_rfl)) ?_
        (try simp only [Act.put, List.setIfInBounds_toArray, List.set_cons_zero, List.set_cons_succ])
        clear hSF
        refine NoPanic.normal ?_
        have HF : Hid (ScI (v3.setCell ⟨sA, 0, none⟩ (.slice (some ⟨gB, 0, none⟩) (n + 1) cB)) base sA (some ⟨gB, 0, none⟩) (n + 1) cB (some ⟨gE, 0, none⟩) cE gx gy st (q ++ [(b, (e, g))]) ∧ Kz [124, 128, 115] w0 (v3.setCell ⟨sA, 0, none⟩ (.slice (some ⟨gB, 0, none⟩) (n + 1) cB)) ∧ Below base w0 (v3.setCell ⟨sA, 0, none⟩ (.slice (some ⟨gB, 0, none⟩) (n + 1) cB)) ∧ ∀ g cs, g ≠ sA → Bk w0 g 115 cs → Bk (v3.setCell ⟨sA, 0, none⟩ (.slice (some ⟨gB, 0, none⟩) (n + 1) cB)) g 115 cs) := Lib.hid (sc18_fin HRv3.out.1 HBv3.out HEv3.out HRv3.out.2.2.2.1 HRv3.out.2.2.2.2 HL.out HLO.out)
        exact hN _ _ _ _ _ _ _ _ _ _ _ _ _ _ _ _ HF
    · go_simp
      obtain ⟨ne, hne⟩ : ∃ z, z = u0.heap.size := ⟨_, rfl⟩
      obtain ⟨v0, hv0⟩ : ∃ z, z = u0.alloc (.cells #[.int .i64 e, .int .i64 g] 128) := ⟨_, rfl⟩
      have HRv0 : Hid (Bk v0 sA 115 #[.slice A n c, .slice none 0 0, .slice none 0 0, .int .i64 gx, .int .i64 gy, .int .i64 st] ∧ Bk v0 ba 124 #[.int .i64 b.px, .int .i64 b.py, .int .i64 b.vx, .int .i64 b.vy, .int .i64 b.ang, .int .i64 b.spin, .int .i64 b.mass, .int .i64 b.inr, .int .i64 b.bou, .int .i64 b.rub, .slice (some ⟨g0, 0, none⟩) 4 cc, .bool b.asl, .int .i64 b.calm] ∧ Bk v0 ia 147 #[.int .i64 e, .int .i64 g, .slice iA iN ic] ∧ Kz [124, 128] w0 v0 ∧ Below base w0 v0) := Lib.hid (by rw [hv0]; obtain ⟨r1, r2, r3, r4, r5⟩ := HRu0.out; exact ⟨r1.alloc _, r2.alloc _, r3.alloc _, r4.alloc _, r5.alloc (Nat.le_trans hbase r5.size) _⟩)
      have HBv0 : Hid (v0.ownsRow base 124 13 (.slice A n c) n (bmCs l)) := Lib.hid (by rw [hv0]; exact HBu0.out.alloc _)
      have HEv0 : Hid (v0.ownsRow base 128 2 (.slice E n ec) n (enCs (q.map Prod.snd))) := Lib.hid (by rw [hv0]; exact HEu0.out.alloc _)
      have Hnev0 : Hid (Bk v0 ne 128 #[.int .i64 e, .int .i64 g]) := Lib.hid (by rw [hv0, hne]; exact Bk.new _ _ _)
      rw [← hv0, ← hne]
      clear hv0 hne
      refine And.intro (HS2.out _ HRv0.out) ?_
      (try simp only [Act.put, List.setIfInBounds_toArray, List.set_cons_zero, List.set_cons_succ])
      refine wpAnyH_oneW (i := 3) rfl (by kernel_rfl) (by rfl) ?_
      go_simp
      obtain ⟨nb, hnb⟩ : ∃ z, z = v0.heap.size := ⟨_, rfl⟩
      obtain ⟨v1, hv1⟩ : ∃ z, z = v0.alloc (.cells #[.int .i64 b.px, .int .i64 b.py, .int .i64 b.vx, .int .i64 b.vy, .int .i64 b.ang, .int .i64 b.spin, .int .i64 b.mass, .int .i64 b.inr, .int .i64 b.bou, .int .i64 b.rub, .slice (some ⟨g0, 0, none⟩) 4 cc, .bool b.asl, .int .i64 b.calm] 124) := ⟨_, rfl⟩
      have HRv1 : Hid (Bk v1 sA 115 #[.slice A n c, .slice none 0 0, .slice none 0 0, .int .i64 gx, .int .i64 gy, .int .i64 st] ∧ Bk v1 ba 124 #[.int .i64 b.px, .int .i64 b.py, .int .i64 b.vx, .int .i64 b.vy, .int .i64 b.ang, .int .i64 b.spin, .int .i64 b.mass, .int .i64 b.inr, .int .i64 b.bou, .int .i64 b.rub, .slice (some ⟨g0, 0, none⟩) 4 cc, .bool b.asl, .int .i64 b.calm] ∧ Bk v1 ia 147 #[.int .i64 e, .int .i64 g, .slice iA iN ic] ∧ Kz [124, 128] w0 v1 ∧ Below base w0 v1) := Lib.hid (by rw [hv1]; obtain ⟨r1, r2, r3, r4, r5⟩ := HRv0.out; exact ⟨r1.alloc _, r2.alloc _, r3.alloc _, r4.alloc _, r5.alloc (Nat.le_trans hbase r5.size) _⟩)
      have HBv1 : Hid (v1.ownsRow base 124 13 (.slice A n c) n (bmCs l)) := Lib.hid (by rw [hv1]; exact HBv0.out.alloc _)
      have HEv1 : Hid (v1.ownsRow base 128 2 (.slice E n ec) n (enCs (q.map Prod.snd))) := Lib.hid (by rw [hv1]; exact HEv0.out.alloc _)
      have Hnbv1 : Hid (Bk v1 nb 124 #[.int .i64 b.px, .int .i64 b.py, .int .i64 b.vx, .int .i64 b.vy, .int .i64 b.ang, .int .i64 b.spin, .int .i64 b.mass, .int .i64 b.inr, .int .i64 b.bou, .int .i64 b.rub, .slice (some ⟨g0, 0, none⟩) 4 cc, .bool b.asl, .int .i64 b.calm]) := Lib.hid (by rw [hv1, hnb]; exact Bk.new _ _ _)
      have Hnev1 : Hid (Bk v1 ne 128 #[.int .i64 e, .int .i64 g]) := Lib.hid (by rw [hv1]; exact Hnev0.out.alloc _)
      rw [← hv1, ← hnb]
      clear hv1 hnb
      refine And.intro (HS2.out _ HRv1.out) ?_
      (try simp only [Act.put, List.setIfInBounds_toArray, List.set_cons_zero, List.set_cons_succ])
      refine wpAnyH_oneW (i := 4) rfl (by kernel_rfl) (by rfl) ?_
      refine wp_append_one (.tmp 73) (.tmp 75) 112 rfl base 124 iB (.agg #[.int .i64 0, .int .i64 0, .int .i64 0, .int .i64 0, .int .i64 0, .int .i64 0, .int .i64 0, .int .i64 0, .int .i64 0, .int .i64 0, .slice none 0 0, .bool false, .int .i64 0]) 13 120 Try.underlying112 hiB hB0 hB1 hB2 rfl (by decide) (.slice A n c) n (bmCs l) rfl HBv1.out nb 1 124 #[.int .i64 b.px, .int .i64 b.py, .int .i64 b.vx, .int .i64 b.vy, .int .i64 b.ang, .int .i64 b.spin, .int .i64 b.mass, .int .i64 b.inr, .int .i64 b.bou, .int .i64 b.rub, .slice (some ⟨g0, 0, none⟩) 4 cc, .bool b.asl, .int .i64 b.calm] rfl Hnbv1.out rfl (by simp [Value.oneCell']) (n + 1) rfl (by unfold maxLen; omega) (by omega) (Nat.le_trans hbase HRv1.out.2.2.2.2.size) ?_
      intro gB cB v2 hown hgr hat
      have HRv2 : Hid (Bk v2 sA 115 #[.slice A n c, .slice none 0 0, .slice none 0 0, .int .i64 gx, .int .i64 gy, .int .i64 st] ∧ Bk v2 ba 124 #[.int .i64 b.px, .int .i64 b.py, .int .i64 b.vx, .int .i64 b.vy, .int .i64 b.ang, .int .i64 b.spin, .int .i64 b.mass, .int .i64 b.inr, .int .i64 b.bou, .int .i64 b.rub, .slice (some ⟨g0, 0, none⟩) 4 cc, .bool b.asl, .int .i64 b.calm] ∧ Bk v2 ia 147 #[.int .i64 e, .int .i64 g, .slice iA iN ic] ∧ Kz [124, 128] w0 v2 ∧ Below base w0 v2) := Lib.hid (by obtain ⟨r1, r2, r3, r4, r5⟩ := HRv1.out; exact ⟨r1.grown hgr (fun e => own_ne HBv1.out r1 (by decide) e.symm), r2.grown hgr (fun e => hne e.symm), r3.grown hgr (fun e => own_ne HBv1.out r3 (by decide) e.symm), r4.grown HBv1.out hgr (by simp), r5.trans (grown_below HBv1.out hgr (Nat.le_trans hbase r5.size))⟩)
      have HBv2 : Hid (v2.ownsRow base 124 13 (.slice (some ⟨gB, 0, none⟩) (n + 1) cB) (n + 1) (bmCs l ++ #[.int .i64 b.px, .int .i64 b.py, .int .i64 b.vx, .int .i64 b.vy, .int .i64 b.ang, .int .i64 b.spin, .int .i64 b.mass, .int .i64 b.inr, .int .i64 b.bou, .int .i64 b.rub, .slice (some ⟨g0, 0, none⟩) 4 cc, .bool b.asl, .int .i64 b.calm].toList)) := Lib.hid hown
      have HEv2 : Hid (v2.ownsRow base 128 2 (.slice E n ec) n (enCs (q.map Prod.snd))) := Lib.hid (((Kx.refl (B := 0) (F := [124])).grown HBv1.out hgr (Nat.zero_le _) (by simp)).own HEv1.out (by decide))
      have Hnev2 : Hid (Bk v2 ne 128 #[.int .i64 e, .int .i64 g]) := Lib.hid (Hnev1.out.grown hgr (fun e => own_ne HBv1.out Hnev1.out (by decide) e.symm))
      clear hown hgr hat
      refine And.intro (HS2.out _ HRv2.out) ?_
      (try simp only [Act.put, List.setIfInBounds_toArray])
      refine wpAnyH_val (i := 10) (v := .pointer (some ⟨sA, 0, none⟩)) (d := some 82) rfl rfl (by kernel_rfl) (by kernel_rfl) (by kernel_rfl) (fun _ _ _ h => h) (Or.inl ⟨by rfl, fun w hS => by (obtain ⟨h0, h1, h2, h3, h4, h5, h6, h7, h8, h9, h10, h11, h12, h13, h14⟩ := hS; go_simp)⟩) (HS2.out _ HRv2.out) ?_
      (try simp only [Act.put])
      refine wpAnyH_oneW (i := 9) rfl (by kernel_rfl) (by rfl) ?_
      refine wp_append_one (.tmp 77) (.tmp 80) 116 rfl base 128 iE (.agg #[.int .i64 0, .int .i64 0]) 2 16 Try.underlying116 hiE hE0 hE1 hE2 rfl (by decide) (.slice E n ec) n (enCs (q.map Prod.snd)) rfl HEv2.out ne 1 128 #[.int .i64 e, .int .i64 g] rfl Hnev2.out rfl (by simp [Value.oneCell']) (n + 1) rfl (by unfold maxLen; omega) (by omega) (Nat.le_trans hbase HRv2.out.2.2.2.2.size) ?_
      intro gE cE v3 hown hgr hat
      have HRv3 : Hid (Bk v3 sA 115 #[.slice A n c, .slice none 0 0, .slice none 0 0, .int .i64 gx, .int .i64 gy, .int .i64 st] ∧ Bk v3 ba 124 #[.int .i64 b.px, .int .i64 b.py, .int .i64 b.vx, .int .i64 b.vy, .int .i64 b.ang, .int .i64 b.spin, .int .i64 b.mass, .int .i64 b.inr, .int .i64 b.bou, .int .i64 b.rub, .slice (some ⟨g0, 0, none⟩) 4 cc, .bool b.asl, .int .i64 b.calm] ∧ Bk v3 ia 147 #[.int .i64 e, .int .i64 g, .slice iA iN ic] ∧ Kz [124, 128] w0 v3 ∧ Below base w0 v3) := Lib.hid (by obtain ⟨r1, r2, r3, r4, r5⟩ := HRv2.out; exact ⟨r1.grown hgr (fun e => own_ne HEv2.out r1 (by decide) e.symm), r2.grown hgr (fun e => own_ne HEv2.out r2 (by decide) e.symm), r3.grown hgr (fun e => own_ne HEv2.out r3 (by decide) e.symm), r4.grown HEv2.out hgr (by simp), r5.trans (grown_below HEv2.out hgr (Nat.le_trans hbase r5.size))⟩)
      have HEv3 : Hid (v3.ownsRow base 128 2 (.slice (some ⟨gE, 0, none⟩) (n + 1) cE) (n + 1) (enCs (q.map Prod.snd) ++ #[.int .i64 e, .int .i64 g].toList)) := Lib.hid hown
      have HBv3 : Hid (v3.ownsRow base 124 13 (.slice (some ⟨gB, 0, none⟩) (n + 1) cB) (n + 1) (bmCs l ++ #[.int .i64 b.px, .int .i64 b.py, .int .i64 b.vx, .int .i64 b.vy, .int .i64 b.ang, .int .i64 b.spin, .int .i64 b.mass, .int .i64 b.inr, .int .i64 b.bou, .int .i64 b.rub, .slice (some ⟨g0, 0, none⟩) 4 cc, .bool b.asl, .int .i64 b.calm].toList)) := Lib.hid (((Kx.refl (B := 0) (F := [128])).grown HEv2.out hgr (Nat.zero_le _) (by simp)).own HBv2.out (by decide))
      clear hown hgr hat
      refine And.intro (HS2.out _ HRv3.out) ?_
      (try simp only [Act.put])
      have q0 : v3.cell? ⟨sA, 0, none⟩ = some (.slice A n c) := HRv3.out.1.cell 0
      have f0 : v3.frozen? ⟨sA, 0, none⟩ = false := HRv3.out.1.frozen 0
      refine wpAnyH_oneW (i := 11) rfl (by kernel_rfl) (by rfl) ?_
      go_simp
      have hSF := sc18_S HRv3.out.1 HRv3.out.2.1 HRv3.out.2.2.1 (u := .slice (some ⟨gB, 0, none⟩) (n + 1) cB)
      refine And.intro (by (obtain ⟨a0, a1, a2, a3, a4, a5, a6, a7, a8, a9, a10, a11, a12, a13, a14⟩ := hSF; obtain ⟨b0, b1, b2, b3, b4, b5, b6, b7, b8, b9, b10, b11, b12, b13, b14⟩ := HS2.out _ HRv3.out; and_intros <;> assumption)) ?_
      (try simp only [Act.put, List.setIfInBounds_toArray, List.set_cons_zero, List.set_cons_succ])
      refine wpAnyH_oneW (i := 12) rfl (by kernel_rfl) (by rfl) ?_
      go_simp
      refine And.intro (by (obtain ⟨a0, a1, a2, a3, a4, a5, a6, a7, a8, a9, a10, a11, a12, a13, a14⟩ := hSF; obtain ⟨b0, b1, b2, b3, b4, b5, b6, b7, b8, b9, b10, b11, b12, b13, b14⟩ := HS2.out _ HRv3.out; and_intros <;> first | assumption | kernel_rfl)) ?_
      (try simp only [Act.put, List.setIfInBounds_toArray, List.set_cons_zero, List.set_cons_succ])
      clear hSF
      refine NoPanic.normal ?_
      have HF : Hid (ScI (v3.setCell ⟨sA, 0, none⟩ (.slice (some ⟨gB, 0, none⟩) (n + 1) cB)) base sA (some ⟨gB, 0, none⟩) (n + 1) cB (some ⟨gE, 0, none⟩) cE gx gy st (q ++ [(b, (e, g))]) ∧ Kz [124, 128, 115] w0 (v3.setCell ⟨sA, 0, none⟩ (.slice (some ⟨gB, 0, none⟩) (n + 1) cB)) ∧ Below base w0 (v3.setCell ⟨sA, 0, none⟩ (.slice (some ⟨gB, 0, none⟩) (n + 1) cB)) ∧ ∀ g cs, g ≠ sA → Bk w0 g 115 cs → Bk (v3.setCell ⟨sA, 0, none⟩ (.slice (some ⟨gB, 0, none⟩) (n + 1) cB)) g 115 cs) := Lib.hid (sc18_fin HRv3.out.1 HBv3.out HEv3.out HRv3.out.2.2.2.1 HRv3.out.2.2.2.2 HL.out HLO.out)
      exact hN _ _ _ _ _ _ _ _ _ _ _ _ _ _ _ _ HF
  · go_simp
    obtain ⟨nb, hnb⟩ : ∃ z, z = u0.heap.size := ⟨_, rfl⟩
    obtain ⟨v0, hv0⟩ : ∃ z, z = u0.alloc (.cells #[.int .i64 b.px, .int .i64 b.py, .int .i64 b.vx, .int .i64 b.vy, .int .i64 b.ang, .int .i64 b.spin, .int .i64 b.mass, .int .i64 b.inr, .int .i64 b.bou, .int .i64 b.rub, .slice (some ⟨g0, 0, none⟩) 4 cc, .bool b.asl, .int .i64 b.calm] 124) := ⟨_, rfl⟩
    have HRv0 : Hid (Bk v0 sA 115 #[.slice A n c, .slice none 0 0, .slice none 0 0, .int .i64 gx, .int .i64 gy, .int .i64 st] ∧ Bk v0 ba 124 #[.int .i64 b.px, .int .i64 b.py, .int .i64 b.vx, .int .i64 b.vy, .int .i64 b.ang, .int .i64 b.spin, .int .i64 b.mass, .int .i64 b.inr, .int .i64 b.bou, .int .i64 b.rub, .slice (some ⟨g0, 0, none⟩) 4 cc, .bool b.asl, .int .i64 b.calm] ∧ Bk v0 ia 147 #[.int .i64 e, .int .i64 g, .slice iA iN ic] ∧ Kz [124, 128] w0 v0 ∧ Below base w0 v0) := Lib.hid (by rw [hv0]; obtain ⟨r1, r2, r3, r4, r5⟩ := HRu0.out; exact ⟨r1.alloc _, r2.alloc _, r3.alloc _, r4.alloc _, r5.alloc (Nat.le_trans hbase r5.size) _⟩)
    have HBv0 : Hid (v0.ownsRow base 124 13 (.slice A n c) n (bmCs l)) := Lib.hid (by rw [hv0]; exact HBu0.out.alloc _)
    have HEv0 : Hid (v0.ownsRow base 128 2 (.slice E n ec) n (enCs (q.map Prod.snd))) := Lib.hid (by rw [hv0]; exact HEu0.out.alloc _)
    have Hnbv0 : Hid (Bk v0 nb 124 #[.int .i64 b.px, .int .i64 b.py, .int .i64 b.vx, .int .i64 b.vy, .int .i64 b.ang, .int .i64 b.spin, .int .i64 b.mass, .int .i64 b.inr, .int .i64 b.bou, .int .i64 b.rub, .slice (some ⟨g0, 0, none⟩) 4 cc, .bool b.asl, .int .i64 b.calm]) := Lib.hid (by rw [hv0, hnb]; exact Bk.new _ _ _)
    rw [← hv0, ← hnb]
    clear hv0 hnb
    refine And.intro (HS2.out _ HRv0.out) ?_
    (try simp only [Act.put, List.setIfInBounds_toArray, List.set_cons_zero, List.set_cons_succ])
    refine wpAnyH_two (i := 1) (j := 8) rfl rfl (by kernel_rfl) (by rfl) (by rfl) ?_ ?_
    · have qL : v0.cell? ⟨sA, 0, none⟩ = some (.slice A n c) := HRv0.out.1.cell 0
      go_simp
      refine And.intro (HS2.out _ HRv0.out) ?_
      (try simp only [Act.put, List.setIfInBounds_toArray, List.set_cons_zero, List.set_cons_succ])
      clear qL
      refine wpAnyH_two (i := 4) (j := 8) rfl rfl (by kernel_rfl) (by rfl) (by rfl) ?_ ?_
      · refine wp_append_one (.tmp 73) (.tmp 75) 112 rfl base 124 iB (.agg #[.int .i64 0, .int .i64 0, .int .i64 0, .int .i64 0, .int .i64 0, .int .i64 0, .int .i64 0, .int .i64 0, .int .i64 0, .int .i64 0, .slice none 0 0, .bool false, .int .i64 0]) 13 120 Try.underlying112 hiB hB0 hB1 hB2 rfl (by decide) (.slice A n c) n (bmCs l) rfl HBv0.out nb 1 124 #[.int .i64 b.px, .int .i64 b.py, .int .i64 b.vx, .int .i64 b.vy, .int .i64 b.ang, .int .i64 b.spin, .int .i64 b.mass, .int .i64 b.inr, .int .i64 b.bou, .int .i64 b.rub, .slice (some ⟨g0, 0, none⟩) 4 cc, .bool b.asl, .int .i64 b.calm] rfl Hnbv0.out rfl (by simp [Value.oneCell']) (n + 1) rfl (by unfold maxLen; omega) (by omega) (Nat.le_trans hbase HRv0.out.2.2.2.2.size) ?_
        intro gB cB v1 hown hgr hat
        have HRv1 : Hid (Bk v1 sA 115 #[.slice A n c, .slice none 0 0, .slice none 0 0, .int .i64 gx, .int .i64 gy, .int .i64 st] ∧ Bk v1 ba 124 #[.int .i64 b.px, .int .i64 b.py, .int .i64 b.vx, .int .i64 b.vy, .int .i64 b.ang, .int .i64 b.spin, .int .i64 b.mass, .int .i64 b.inr, .int .i64 b.bou, .int .i64 b.rub, .slice (some ⟨g0, 0, none⟩) 4 cc, .bool b.asl, .int .i64 b.calm] ∧ Bk v1 ia 147 #[.int .i64 e, .int .i64 g, .slice iA iN ic] ∧ Kz [124, 128] w0 v1 ∧ Below base w0 v1) := Lib.hid (by obtain ⟨r1, r2, r3, r4, r5⟩ := HRv0.out; exact ⟨r1.grown hgr (fun e => own_ne HBv0.out r1 (by decide) e.symm), r2.grown hgr (fun e => hne e.symm), r3.grown hgr (fun e => own_ne HBv0.out r3 (by decide) e.symm), r4.grown HBv0.out hgr (by simp), r5.trans (grown_below HBv0.out hgr (Nat.le_trans hbase r5.size))⟩)
        have HBv1 : Hid (v1.ownsRow base 124 13 (.slice (some ⟨gB, 0, none⟩) (n + 1) cB) (n + 1) (bmCs l ++ #[.int .i64 b.px, .int .i64 b.py, .int .i64 b.vx, .int .i64 b.vy, .int .i64 b.ang, .int .i64 b.spin, .int .i64 b.mass, .int .i64 b.inr, .int .i64 b.bou, .int .i64 b.rub, .slice (some ⟨g0, 0, none⟩) 4 cc, .bool b.asl, .int .i64 b.calm].toList)) := Lib.hid hown
        have HEv1 : Hid (v1.ownsRow base 128 2 (.slice E n ec) n (enCs (q.map Prod.snd))) := Lib.hid (((Kx.refl (B := 0) (F := [124])).grown HBv0.out hgr (Nat.zero_le _) (by simp)).own HEv0.out (by decide))
        clear hown hgr hat
        refine And.intro (HS2.out _ HRv1.out) ?_
        (try simp only [Act.put, List.setIfInBounds_toArray])
        refine wpAnyH_val (i := 10) (v := .pointer (some ⟨sA, 0, none⟩)) (d := some 82) rfl rfl (by kernel_rfl) (by kernel_rfl) (by kernel_rfl) (fun _ _ _ h => h) (Or.inl ⟨by rfl, fun w hS => by (obtain ⟨h0, h1, h2, h3, h4, h5, h6, h7, h8, h9, h10, h11, h12, h13, h14⟩ := hS; go_simp)⟩) (HS2.out _ HRv1.out) ?_
        (try simp only [Act.put])
        refine wpAnyH_oneW (i := 8) rfl (by kernel_rfl) (by rfl) ?_
        go_simp
        obtain ⟨ne, hne⟩ : ∃ z, z = v1.heap.size := ⟨_, rfl⟩
        obtain ⟨v2, hv2⟩ : ∃ z, z = v1.alloc (.cells #[.int .i64 e, .int .i64 g] 128) := ⟨_, rfl⟩
        have HRv2 : Hid (Bk v2 sA 115 #[.slice A n c, .slice none 0 0, .slice none 0 0, .int .i64 gx, .int .i64 gy, .int .i64 st] ∧ Bk v2 ba 124 #[.int .i64 b.px, .int .i64 b.py, .int .i64 b.vx, .int .i64 b.vy, .int .i64 b.ang, .int .i64 b.spin, .int .i64 b.mass, .int .i64 b.inr, .int .i64 b.bou, .int .i64 b.rub, .slice (some ⟨g0, 0, none⟩) 4 cc, .bool b.asl, .int .i64 b.calm] ∧ Bk v2 ia 147 #[.int .i64 e, .int .i64 g, .slice iA iN ic] ∧ Kz [124, 128] w0 v2 ∧ Below base w0 v2) := Lib.hid (by rw [hv2]; obtain ⟨r1, r2, r3, r4, r5⟩ := HRv1.out; exact ⟨r1.alloc _, r2.alloc _, r3.alloc _, r4.alloc _, r5.alloc (Nat.le_trans hbase r5.size) _⟩)
        have HBv2 : Hid (v2.ownsRow base 124 13 (.slice (some ⟨gB, 0, none⟩) (n + 1) cB) (n + 1) (bmCs l ++ #[.int .i64 b.px, .int .i64 b.py, .int .i64 b.vx, .int .i64 b.vy, .int .i64 b.ang, .int .i64 b.spin, .int .i64 b.mass, .int .i64 b.inr, .int .i64 b.bou, .int .i64 b.rub, .slice (some ⟨g0, 0, none⟩) 4 cc, .bool b.asl, .int .i64 b.calm].toList)) := Lib.hid (by rw [hv2]; exact HBv1.out.alloc _)
        have HEv2 : Hid (v2.ownsRow base 128 2 (.slice E n ec) n (enCs (q.map Prod.snd))) := Lib.hid (by rw [hv2]; exact HEv1.out.alloc _)
        have Hnev2 : Hid (Bk v2 ne 128 #[.int .i64 e, .int .i64 g]) := Lib.hid (by rw [hv2, hne]; exact Bk.new _ _ _)
        rw [← hv2, ← hne]
        clear hv2 hne
        refine And.intro (HS2.out _ HRv2.out) ?_
        (try simp only [Act.put, List.setIfInBounds_toArray, List.set_cons_zero, List.set_cons_succ])
        refine wpAnyH_oneW (i := 9) rfl (by kernel_rfl) (by rfl) ?_
        refine wp_append_one (.tmp 77) (.tmp 80) 116 rfl base 128 iE (.agg #[.int .i64 0, .int .i64 0]) 2 16 Try.underlying116 hiE hE0 hE1 hE2 rfl (by decide) (.slice E n ec) n (enCs (q.map Prod.snd)) rfl HEv2.out ne 1 128 #[.int .i64 e, .int .i64 g] rfl Hnev2.out rfl (by simp [Value.oneCell']) (n + 1) rfl (by unfold maxLen; omega) (by omega) (Nat.le_trans hbase HRv2.out.2.2.2.2.size) ?_
        intro gE cE v3 hown hgr hat
        have HRv3 : Hid (Bk v3 sA 115 #[.slice A n c, .slice none 0 0, .slice none 0 0, .int .i64 gx, .int .i64 gy, .int .i64 st] ∧ Bk v3 ba 124 #[.int .i64 b.px, .int .i64 b.py, .int .i64 b.vx, .int .i64 b.vy, .int .i64 b.ang, .int .i64 b.spin, .int .i64 b.mass, .int .i64 b.inr, .int .i64 b.bou, .int .i64 b.rub, .slice (some ⟨g0, 0, none⟩) 4 cc, .bool b.asl, .int .i64 b.calm] ∧ Bk v3 ia 147 #[.int .i64 e, .int .i64 g, .slice iA iN ic] ∧ Kz [124, 128] w0 v3 ∧ Below base w0 v3) := Lib.hid (by obtain ⟨r1, r2, r3, r4, r5⟩ := HRv2.out; exact ⟨r1.grown hgr (fun e => own_ne HEv2.out r1 (by decide) e.symm), r2.grown hgr (fun e => own_ne HEv2.out r2 (by decide) e.symm), r3.grown hgr (fun e => own_ne HEv2.out r3 (by decide) e.symm), r4.grown HEv2.out hgr (by simp), r5.trans (grown_below HEv2.out hgr (Nat.le_trans hbase r5.size))⟩)
        have HEv3 : Hid (v3.ownsRow base 128 2 (.slice (some ⟨gE, 0, none⟩) (n + 1) cE) (n + 1) (enCs (q.map Prod.snd) ++ #[.int .i64 e, .int .i64 g].toList)) := Lib.hid hown
        have HBv3 : Hid (v3.ownsRow base 124 13 (.slice (some ⟨gB, 0, none⟩) (n + 1) cB) (n + 1) (bmCs l ++ #[.int .i64 b.px, .int .i64 b.py, .int .i64 b.vx, .int .i64 b.vy, .int .i64 b.ang, .int .i64 b.spin, .int .i64 b.mass, .int .i64 b.inr, .int .i64 b.bou, .int .i64 b.rub, .slice (some ⟨g0, 0, none⟩) 4 cc, .bool b.asl, .int .i64 b.calm].toList)) := Lib.hid (((Kx.refl (B := 0) (F := [128])).grown HEv2.out hgr (Nat.zero_le _) (by simp)).own HBv2.out (by decide))
        clear hown hgr hat
        refine And.intro (HS2.out _ HRv3.out) ?_
        (try simp only [Act.put, List.setIfInBounds_toArray])
        have q0 : v3.cell? ⟨sA, 0, none⟩ = some (.slice A n c) := HRv3.out.1.cell 0
        have f0 : v3.frozen? ⟨sA, 0, none⟩ = false := HRv3.out.1.frozen 0
        refine wpAnyH_oneW (i := 11) rfl (by kernel_rfl) (by rfl) ?_
        go_simp
        have hSF := sc18_S HRv3.out.1 HRv3.out.2.1 HRv3.out.2.2.1 (u := .slice (some ⟨gB, 0, none⟩) (n + 1) cB)
        refine And.intro (by (obtain ⟨a0, a1, a2, a3, a4, a5, a6, a7, a8, a9, a10, a11, a12, a13, a14⟩ := hSF; obtain ⟨b0, b1, b2, b3, b4, b5, b6, b7, b8, b9, b10, b11, b12, b13, b14⟩ := HS2.out _ HRv3.out; and_intros <;> assumption)) ?_
        (try simp only [Act.put, List.setIfInBounds_toArray, List.set_cons_zero, List.set_cons_succ])
        refine wpAnyH_oneW (i := 12) rfl (by kernel_rfl) (by rfl) ?_
        go_simp
        refine And.intro (by (obtain ⟨a0, a1, a2, a3, a4, a5, a6, a7, a8, a9, a10, a11, a12, a13, a14⟩ := hSF; obtain ⟨b0, b1, b2, b3, b4, b5, b6, b7, b8, b9, b10, b11, b12, b13, b14⟩ := HS2.out _ HRv3.out; and_intros <;> first | assumption | kernel_rfl)) ?_
        (try simp only [Act.put, List.setIfInBounds_toArray, List.set_cons_zero, List.set_cons_succ])
        clear hSF
        refine NoPanic.normal ?_
        have HF : Hid (ScI (v3.setCell ⟨sA, 0, none⟩ (.slice (some ⟨gB, 0, none⟩) (n + 1) cB)) base sA (some ⟨gB, 0, none⟩) (n + 1) cB (some ⟨gE, 0, none⟩) cE gx gy st (q ++ [(b, (e, g))]) ∧ Kz [124, 128, 115] w0 (v3.setCell ⟨sA, 0, none⟩ (.slice (some ⟨gB, 0, none⟩) (n + 1) cB)) ∧ Below base w0 (v3.setCell ⟨sA, 0, none⟩ (.slice (some ⟨gB, 0, none⟩) (n + 1) cB)) ∧ ∀ g cs, g ≠ sA → Bk w0 g 115 cs → Bk (v3.setCell ⟨sA, 0, none⟩ (.slice (some ⟨gB, 0, none⟩) (n + 1) cB)) g 115 cs) := Lib.hid (sc18_fin HRv3.out.1 HBv3.out HEv3.out HRv3.out.2.2.2.1 HRv3.out.2.2.2.2 HL.out HLO.out)
        exact hN _ _ _ _ _ _ _ _ _ _ _ _ _ _ _ _ HF
      · go_simp
        obtain ⟨ne, hne⟩ : ∃ z, z = v0.heap.size := ⟨_, rfl⟩
        obtain ⟨v1, hv1⟩ : ∃ z, z = v0.alloc (.cells #[.int .i64 e, .int .i64 g] 128) := ⟨_, rfl⟩
        have HRv1 : Hid (Bk v1 sA 115 #[.slice A n c, .slice none 0 0, .slice none 0 0, .int .i64 gx, .int .i64 gy, .int .i64 st] ∧ Bk v1 ba 124 #[.int .i64 b.px, .int .i64 b.py, .int .i64 b.vx, .int .i64 b.vy, .int .i64 b.ang, .int .i64 b.spin, .int .i64 b.mass, .int .i64 b.inr, .int .i64 b.bou, .int .i64 b.rub, .slice (some ⟨g0, 0, none⟩) 4 cc, .bool b.asl, .int .i64 b.calm] ∧ Bk v1 ia 147 #[.int .i64 e, .int .i64 g, .slice iA iN ic] ∧ Kz [124, 128] w0 v1 ∧ Below base w0 v1) := Lib.hid (by rw [hv1]; obtain ⟨r1, r2, r3, r4, r5⟩ := HRv0.out; exact ⟨r1.alloc _, r2.alloc _, r3.alloc _, r4.alloc _, r5.alloc (Nat.le_trans hbase r5.size) _⟩)
        have HBv1 : Hid (v1.ownsRow base 124 13 (.slice A n c) n (bmCs l)) := Lib.hid (by rw [hv1]; exact HBv0.out.alloc _)
        have HEv1 : Hid (v1.ownsRow base 128 2 (.slice E n ec) n (enCs (q.map Prod.snd))) := Lib.hid (by rw [hv1]; exact HEv0.out.alloc _)
        have Hnev1 : Hid (Bk v1 ne 128 #[.int .i64 e, .int .i64 g]) := Lib.hid (by rw [hv1, hne]; exact Bk.new _ _ _)
        have Hnbv1 : Hid (Bk v1 nb 124 #[.int .i64 b.px, .int .i64 b.py, .int .i64 b.vx, .int .i64 b.vy, .int .i64 b.ang, .int .i64 b.spin, .int .i64 b.mass, .int .i64 b.inr, .int .i64 b.bou, .int .i64 b.rub, .slice (some ⟨g0, 0, none⟩) 4 cc, .bool b.asl, .int .i64 b.calm]) := Lib.hid (by rw [hv1]; exact Hnbv0.out.alloc _)
        rw [← hv1, ← hne]
        clear hv1 hne
        refine And.intro (HS2.out _ HRv1.out) ?_
        (try simp only [Act.put, List.setIfInBounds_toArray, List.set_cons_zero, List.set_cons_succ])
        refine wpAnyH_oneW (i := 4) rfl (by kernel_rfl) (by rfl) ?_
        refine wp_append_one (.tmp 73) (.tmp 75) 112 rfl base 124 iB (.agg #[.int .i64 0, .int .i64 0, .int .i64 0, .int .i64 0, .int .i64 0, .int .i64 0, .int .i64 0, .int .i64 0, .int .i64 0, .int .i64 0, .slice none 0 0, .bool false, .int .i64 0]) 13 120 Try.underlying112 hiB hB0 hB1 hB2 rfl (by decide) (.slice A n c) n (bmCs l) rfl HBv1.out nb 1 124 #[.int .i64 b.px, .int .i64 b.py, .int .i64 b.vx, .int .i64 b.vy, .int .i64 b.ang, .int .i64 b.spin, .int .i64 b.mass, .int .i64 b.inr, .int .i64 b.bou, .int .i64 b.rub, .slice (some ⟨g0, 0, none⟩) 4 cc, .bool b.asl, .int .i64 b.calm] rfl Hnbv1.out rfl (by simp [Value.oneCell']) (n + 1) rfl (by unfold maxLen; omega) (by omega) (Nat.le_trans hbase HRv1.out.2.2.2.2.size) ?_
        intro gB cB v2 hown hgr hat
        have HRv2 : Hid (Bk v2 sA 115 #[.slice A n c, .slice none 0 0, .slice none 0 0, .int .i64 gx, .int .i64 gy, .int .i64 st] ∧ Bk v2 ba 124 #[.int .i64 b.px, .int .i64 b.py, .int .i64 b.vx, .int .i64 b.vy, .int .i64 b.ang, .int .i64 b.spin, .int .i64 b.mass, .int .i64 b.inr, .int .i64 b.bou, .int .i64 b.rub, .slice (some ⟨g0, 0, none⟩) 4 cc, .bool b.asl, .int .i64 b.calm] ∧ Bk v2 ia 147 #[.int .i64 e, .int .i64 g, .slice iA iN ic] ∧ Kz [124, 128] w0 v2 ∧ Below base w0 v2) := Lib.hid (by obtain ⟨r1, r2, r3, r4, r5⟩ := HRv1.out; exact ⟨r1.grown hgr (fun e => own_ne HBv1.out r1 (by decide) e.symm), r2.grown hgr (fun e => hne e.symm), r3.grown hgr (fun e => own_ne HBv1.out r3 (by decide) e.symm), r4.grown HBv1.out hgr (by simp), r5.trans (grown_below HBv1.out hgr (Nat.le_trans hbase r5.size))⟩)
        have HBv2 : Hid (v2.ownsRow base 124 13 (.slice (some ⟨gB, 0, none⟩) (n + 1) cB) (n + 1) (bmCs l ++ #[.int .i64 b.px, .int .i64 b.py, .int .i64 b.vx, .int .i64 b.vy, .int .i64 b.ang, .int .i64 b.spin, .int .i64 b.mass, .int .i64 b.inr, .int .i64 b.bou, .int .i64 b.rub, .slice (some ⟨g0, 0, none⟩) 4 cc, .bool b.asl, .int .i64 b.calm].toList)) := Lib.hid hown
        have HEv2 : Hid (v2.ownsRow base 128 2 (.slice E n ec) n (enCs (q.map Prod.snd))) := Lib.hid (((Kx.refl (B := 0) (F := [124])).grown HBv1.out hgr (Nat.zero_le _) (by simp)).own HEv1.out (by decide))
        have Hnev2 : Hid (Bk v2 ne 128 #[.int .i64 e, .int .i64 g]) := Lib.hid (Hnev1.out.grown hgr (fun e => own_ne HBv1.out Hnev1.out (by decide) e.symm))
        clear hown hgr hat
        refine And.intro (HS2.out _ HRv2.out) ?_
        (try simp only [Act.put, List.setIfInBounds_toArray])
        refine wpAnyH_val (i := 10) (v := .pointer (some ⟨sA, 0, none⟩)) (d := some 82) rfl rfl (by kernel_rfl) (by kernel_rfl) (by kernel_rfl) (fun _ _ _ h => h) (Or.inl ⟨by rfl, fun w hS => by (obtain ⟨h0, h1, h2, h3, h4, h5, h6, h7, h8, h9, h10, h11, h12, h13, h14⟩ := hS; go_simp)⟩) (HS2.out _ HRv2.out) ?_
        (try simp only [Act.put])
        refine wpAnyH_oneW (i := 9) rfl (by kernel_rfl) (by rfl) ?_
        refine wp_append_one (.tmp 77) (.tmp 80) 116 rfl base 128 iE (.agg #[.int .i64 0, .int .i64 0]) 2 16 Try.underlying116 hiE hE0 hE1 hE2 rfl (by decide) (.slice E n ec) n (enCs (q.map Prod.snd)) rfl HEv2.out ne 1 128 #[.int .i64 e, .int .i64 g] rfl Hnev2.out rfl (by simp [Value.oneCell']) (n + 1) rfl (by unfold maxLen; omega) (by omega) (Nat.le_trans hbase HRv2.out.2.2.2.2.size) ?_
        intro gE cE v3 hown hgr hat
        have HRv3 : Hid (Bk v3 sA 115 #[.slice A n c, .slice none 0 0, .slice none 0 0, .int .i64 gx, .int .i64 gy, .int .i64 st] ∧ Bk v3 ba 124 #[.int .i64 b.px, .int .i64 b.py, .int .i64 b.vx, .int .i64 b.vy, .int .i64 b.ang, .int .i64 b.spin, .int .i64 b.mass, .int .i64 b.inr, .int .i64 b.bou, .int .i64 b.rub, .slice (some ⟨g0, 0, none⟩) 4 cc, .bool b.asl, .int .i64 b.calm] ∧ Bk v3 ia 147 #[.int .i64 e, .int .i64 g, .slice iA iN ic] ∧ Kz [124, 128] w0 v3 ∧ Below base w0 v3) := Lib.hid (by obtain ⟨r1, r2, r3, r4, r5⟩ := HRv2.out; exact ⟨r1.grown hgr (fun e => own_ne HEv2.out r1 (by decide) e.symm), r2.grown hgr (fun e => own_ne HEv2.out r2 (by decide) e.symm), r3.grown hgr (fun e => own_ne HEv2.out r3 (by decide) e.symm), r4.grown HEv2.out hgr (by simp), r5.trans (grown_below HEv2.out hgr (Nat.le_trans hbase r5.size))⟩)
        have HEv3 : Hid (v3.ownsRow base 128 2 (.slice (some ⟨gE, 0, none⟩) (n + 1) cE) (n + 1) (enCs (q.map Prod.snd) ++ #[.int .i64 e, .int .i64 g].toList)) := Lib.hid hown
        have HBv3 : Hid (v3.ownsRow base 124 13 (.slice (some ⟨gB, 0, none⟩) (n + 1) cB) (n + 1) (bmCs l ++ #[.int .i64 b.px, .int .i64 b.py, .int .i64 b.vx, .int .i64 b.vy, .int .i64 b.ang, .int .i64 b.spin, .int .i64 b.mass, .int .i64 b.inr, .int .i64 b.bou, .int .i64 b.rub, .slice (some ⟨g0, 0, none⟩) 4 cc, .bool b.asl, .int .i64 b.calm].toList)) := Lib.hid (((Kx.refl (B := 0) (F := [128])).grown HEv2.out hgr (Nat.zero_le _) (by simp)).own HBv2.out (by decide))
        clear hown hgr hat
        refine And.intro (HS2.out _ HRv3.out) ?_
        (try simp only [Act.put])
        have q0 : v3.cell? ⟨sA, 0, none⟩ = some (.slice A n c) := HRv3.out.1.cell 0
        have f0 : v3.frozen? ⟨sA, 0, none⟩ = false := HRv3.out.1.frozen 0
        refine wpAnyH_oneW (i := 11) rfl (by kernel_rfl) (by rfl) ?_
        go_simp
        have hSF := sc18_S HRv3.out.1 HRv3.out.2.1 HRv3.out.2.2.1 (u := .slice (some ⟨gB, 0, none⟩) (n + 1) cB)
        refine And.intro (by (obtain ⟨a0, a1, a2, a3, a4, a5, a6, a7, a8, a9, a10, a11, a12, a13, a14⟩ := hSF; obtain ⟨b0, b1, b2, b3, b4, b5, b6, b7, b8, b9, b10, b11, b12, b13, b14⟩ := HS2.out _ HRv3.out; and_intros <;> assumption)) ?_
        (try simp only [Act.put, List.setIfInBounds_toArray, List.set_cons_zero, List.set_cons_succ])
        refine wpAnyH_oneW (i := 12) rfl (by kernel_rfl) (by rfl) ?_
        go_simp
        refine And.intro (by (obtain ⟨a0, a1, a2, a3, a4, a5, a6, a7, a8, a9, a10, a11, a12, a13, a14⟩ := hSF; obtain ⟨b0, b1, b2, b3, b4, b5, b6, b7, b8, b9, b10, b11, b12, b13, b14⟩ := HS2.out _ HRv3.out; and_intros <;> first | assumption | kernel_rfl)) ?_
        (try simp only [Act.put, List.setIfInBounds_toArray, List.set_cons_zero, List.set_cons_succ])
        clear hSF
        refine NoPanic.normal ?_
        have HF : Hid (ScI (v3.setCell ⟨sA, 0, none⟩ (.slice (some ⟨gB, 0, none⟩) (n + 1) cB)) base sA (some ⟨gB, 0, none⟩) (n + 1) cB (some ⟨gE, 0, none⟩) cE gx gy st (q ++ [(b, (e, g))]) ∧ Kz [124, 128, 115] w0 (v3.setCell ⟨sA, 0, none⟩ (.slice (some ⟨gB, 0, none⟩) (n + 1) cB)) ∧ Below base w0 (v3.setCell ⟨sA, 0, none⟩ (.slice (some ⟨gB, 0, none⟩) (n + 1) cB)) ∧ ∀ g cs, g ≠ sA → Bk w0 g 115 cs → Bk (v3.setCell ⟨sA, 0, none⟩ (.slice (some ⟨gB, 0, none⟩) (n + 1) cB)) g 115 cs) := Lib.hid (sc18_fin HRv3.out.1 HBv3.out HEv3.out HRv3.out.2.2.2.1 HRv3.out.2.2.2.2 HL.out HLO.out)
        exact hN _ _ _ _ _ _ _ _ _ _ _ _ _ _ _ _ HF
    · go_simp
      obtain ⟨ne, hne⟩ : ∃ z, z = v0.heap.size := ⟨_, rfl⟩
      obtain ⟨v1, hv1⟩ : ∃ z, z = v0.alloc (.cells #[.int .i64 e, .int .i64 g] 128) := ⟨_, rfl⟩
      have HRv1 : Hid (Bk v1 sA 115 #[.slice A n c, .slice none 0 0, .slice none 0 0, .int .i64 gx, .int .i64 gy, .int .i64 st] ∧ Bk v1 ba 124 #[.int .i64 b.px, .int .i64 b.py, .int .i64 b.vx, .int .i64 b.vy, .int .i64 b.ang, .int .i64 b.spin, .int .i64 b.mass, .int .i64 b.inr, .int .i64 b.bou, .int .i64 b.rub, .slice (some ⟨g0, 0, none⟩) 4 cc, .bool b.asl, .int .i64 b.calm] ∧ Bk v1 ia 147 #[.int .i64 e, .int .i64 g, .slice iA iN ic] ∧ Kz [124, 128] w0 v1 ∧ Below base w0 v1) := Lib.hid (by rw [hv1]; obtain ⟨r1, r2, r3, r4, r5⟩ := HRv0.out; exact ⟨r1.alloc _, r2.alloc _, r3.alloc _, r4.alloc _, r5.alloc (Nat.le_trans hbase r5.size) _⟩)
      have HBv1 : Hid (v1.ownsRow base 124 13 (.slice A n c) n (bmCs l)) := Lib.hid (by rw [hv1]; exact HBv0.out.alloc _)
      have HEv1 : Hid (v1.ownsRow base 128 2 (.slice E n ec) n (enCs (q.map Prod.snd))) := Lib.hid (by rw [hv1]; exact HEv0.out.alloc _)
      have Hnev1 : Hid (Bk v1 ne 128 #[.int .i64 e, .int .i64 g]) := Lib.hid (by rw [hv1, hne]; exact Bk.new _ _ _)
      have Hnbv1 : Hid (Bk v1 nb 124 #[.int .i64 b.px, .int .i64 b.py, .int .i64 b.vx, .int .i64 b.vy, .int .i64 b.ang, .int .i64 b.spin, .int .i64 b.mass, .int .i64 b.inr, .int .i64 b.bou, .int .i64 b.rub, .slice (some ⟨g0, 0, none⟩) 4 cc, .bool b.asl, .int .i64 b.calm]) := Lib.hid (by rw [hv1]; exact Hnbv0.out.alloc _)
      rw [← hv1, ← hne]
      clear hv1 hne
      refine And.intro (HS2.out _ HRv1.out) ?_
      (try simp only [Act.put, List.setIfInBounds_toArray, List.set_cons_zero, List.set_cons_succ])
      refine wpAnyH_oneW (i := 1) rfl (by kernel_rfl) (by rfl) ?_
      have qL : v1.cell? ⟨sA, 0, none⟩ = some (.slice A n c) := HRv1.out.1.cell 0
      go_simp
      refine And.intro (HS2.out _ HRv1.out) ?_
      (try simp only [Act.put, List.setIfInBounds_toArray, List.set_cons_zero, List.set_cons_succ])
      clear qL
      refine wpAnyH_oneW (i := 4) rfl (by kernel_rfl) (by rfl) ?_
      refine wp_append_one (.tmp 73) (.tmp 75) 112 rfl base 124 iB (.agg #[.int .i64 0, .int .i64 0, .int .i64 0, .int .i64 0, .int .i64 0, .int .i64 0, .int .i64 0, .int .i64 0, .int .i64 0, .int .i64 0, .slice none 0 0, .bool false, .int .i64 0]) 13 120 Try.underlying112 hiB hB0 hB1 hB2 rfl (by decide) (.slice A n c) n (bmCs l) rfl HBv1.out nb 1 124 #[.int .i64 b.px, .int .i64 b.py, .int .i64 b.vx, .int .i64 b.vy, .int .i64 b.ang, .int .i64 b.spin, .int .i64 b.mass, .int .i64 b.inr, .int .i64 b.bou, .int .i64 b.rub, .slice (some ⟨g0, 0, none⟩) 4 cc, .bool b.asl, .int .i64 b.calm] rfl Hnbv1.out rfl (by simp [Value.oneCell']) (n + 1) rfl (by unfold maxLen; omega) (by omega) (Nat.le_trans hbase HRv1.out.2.2.2.2.size) ?_
      intro gB cB v2 hown hgr hat
      have HRv2 : Hid (Bk v2 sA 115 #[.slice A n c, .slice none 0 0, .slice none 0 0, .int .i64 gx, .int .i64 gy, .int .i64 st] ∧ Bk v2 ba 124 #[.int .i64 b.px, .int .i64 b.py, .int .i64 b.vx, .int .i64 b.vy, .int .i64 b.ang, .int .i64 b.spin, .int .i64 b.mass, .int .i64 b.inr, .int .i64 b.bou, .int .i64 b.rub, .slice (some ⟨g0, 0, none⟩) 4 cc, .bool b.asl, .int .i64 b.calm] ∧ Bk v2 ia 147 #[.int .i64 e, .int .i64 g, .slice iA iN ic] ∧ Kz [124, 128] w0 v2 ∧ Below base w0 v2) := Lib.hid (by obtain ⟨r1, r2, r3, r4, r5⟩ := HRv1.out; exact ⟨r1.grown hgr (fun e => own_ne HBv1.out r1 (by decide) e.symm), r2.grown hgr (fun e => hne e.symm), r3.grown hgr (fun e => own_ne HBv1.out r3 (by decide) e.symm), r4.grown HBv1.out hgr (by simp), r5.trans (grown_below HBv1.out hgr (Nat.le_trans hbase r5.size))⟩)
      have HBv2 : Hid (v2.ownsRow base 124 13 (.slice (some ⟨gB, 0, none⟩) (n + 1) cB) (n + 1) (bmCs l ++ #[.int .i64 b.px, .int .i64 b.py, .int .i64 b.vx, .int .i64 b.vy, .int .i64 b.ang, .int .i64 b.spin, .int .i64 b.mass, .int .i64 b.inr, .int .i64 b.bou, .int .i64 b.rub, .slice (some ⟨g0, 0, none⟩) 4 cc, .bool b.asl, .int .i64 b.calm].toList)) := Lib.hid hown
      have HEv2 : Hid (v2.ownsRow base 128 2 (.slice E n ec) n (enCs (q.map Prod.snd))) := Lib.hid (((Kx.refl (B := 0) (F := [124])).grown HBv1.out hgr (Nat.zero_le _) (by simp)).own HEv1.out (by decide))
      have Hnev2 : Hid (Bk v2 ne 128 #[.int .i64 e, .int .i64 g]) := Lib.hid (Hnev1.out.grown hgr (fun e => own_ne HBv1.out Hnev1.out (by decide) e.symm))
      clear hown hgr hat
      refine And.intro (HS2.out _ HRv2.out) ?_
      (try simp only [Act.put, List.setIfInBounds_toArray])
      refine wpAnyH_val (i := 10) (v := .pointer (some ⟨sA, 0, none⟩)) (d := some 82) rfl rfl (by kernel_rfl) (by kernel_rfl) (by kernel_rfl) (fun _ _ _ h => h) (Or.inl ⟨by rfl, fun w hS => by (obtain ⟨h0, h1, h2, h3, h4, h5, h6, h7, h8, h9, h10, h11, h12, h13, h14⟩ := hS; go_simp)⟩) (HS2.out _ HRv2.out) ?_
      (try simp only [Act.put])
      refine wpAnyH_oneW (i := 9) rfl (by kernel_rfl) (by rfl) ?_
      refine wp_append_one (.tmp 77) (.tmp 80) 116 rfl base 128 iE (.agg #[.int .i64 0, .int .i64 0]) 2 16 Try.underlying116 hiE hE0 hE1 hE2 rfl (by decide) (.slice E n ec) n (enCs (q.map Prod.snd)) rfl HEv2.out ne 1 128 #[.int .i64 e, .int .i64 g] rfl Hnev2.out rfl (by simp [Value.oneCell']) (n + 1) rfl (by unfold maxLen; omega) (by omega) (Nat.le_trans hbase HRv2.out.2.2.2.2.size) ?_
      intro gE cE v3 hown hgr hat
      have HRv3 : Hid (Bk v3 sA 115 #[.slice A n c, .slice none 0 0, .slice none 0 0, .int .i64 gx, .int .i64 gy, .int .i64 st] ∧ Bk v3 ba 124 #[.int .i64 b.px, .int .i64 b.py, .int .i64 b.vx, .int .i64 b.vy, .int .i64 b.ang, .int .i64 b.spin, .int .i64 b.mass, .int .i64 b.inr, .int .i64 b.bou, .int .i64 b.rub, .slice (some ⟨g0, 0, none⟩) 4 cc, .bool b.asl, .int .i64 b.calm] ∧ Bk v3 ia 147 #[.int .i64 e, .int .i64 g, .slice iA iN ic] ∧ Kz [124, 128] w0 v3 ∧ Below base w0 v3) := Lib.hid (by obtain ⟨r1, r2, r3, r4, r5⟩ := HRv2.out; exact ⟨r1.grown hgr (fun e => own_ne HEv2.out r1 (by decide) e.symm), r2.grown hgr (fun e => own_ne HEv2.out r2 (by decide) e.symm), r3.grown hgr (fun e => own_ne HEv2.out r3 (by decide) e.symm), r4.grown HEv2.out hgr (by simp), r5.trans (grown_below HEv2.out hgr (Nat.le_trans hbase r5.size))⟩)
      have HEv3 : Hid (v3.ownsRow base 128 2 (.slice (some ⟨gE, 0, none⟩) (n + 1) cE) (n + 1) (enCs (q.map Prod.snd) ++ #[.int .i64 e, .int .i64 g].toList)) := Lib.hid hown
      have HBv3 : Hid (v3.ownsRow base 124 13 (.slice (some ⟨gB, 0, none⟩) (n + 1) cB) (n + 1) (bmCs l ++ #[.int .i64 b.px, .int .i64 b.py, .int .i64 b.vx, .int .i64 b.vy, .int .i64 b.ang, .int .i64 b.spin, .int .i64 b.mass, .int .i64 b.inr, .int .i64 b.bou, .int .i64 b.rub, .slice (some ⟨g0, 0, none⟩) 4 cc, .bool b.asl, .int .i64 b.calm].toList)) := Lib.hid (((Kx.refl (B := 0) (F := [128])).grown HEv2.out hgr (Nat.zero_le _) (by simp)).own HBv2.out (by decide))
      clear hown hgr hat
      refine And.intro (HS2.out _ HRv3.out) ?_
      (try simp only [Act.put])
      have q0 : v3.cell? ⟨sA, 0, none⟩ = some (.slice A n c) := HRv3.out.1.cell 0
      have f0 : v3.frozen? ⟨sA, 0, none⟩ = false := HRv3.out.1.frozen 0
      refine wpAnyH_oneW (i := 11) rfl (by kernel_rfl) (by rfl) ?_
      go_simp
      have hSF := sc18_S HRv3.out.1 HRv3.out.2.1 HRv3.out.2.2.1 (u := .slice (some ⟨gB, 0, none⟩) (n + 1) cB)
      refine And.intro (by (obtain ⟨a0, a1, a2, a3, a4, a5, a6, a7, a8, a9, a10, a11, a12, a13, a14⟩ := hSF; obtain ⟨b0, b1, b2, b3, b4, b5, b6, b7, b8, b9, b10, b11, b12, b13, b14⟩ := HS2.out _ HRv3.out; and_intros <;> assumption)) ?_
      (try simp only [Act.put, List.setIfInBounds_toArray, List.set_cons_zero, List.set_cons_succ])
      refine wpAnyH_oneW (i := 12) rfl (by kernel_rfl) (by rfl) ?_
      go_simp
      refine And.intro (by (obtain ⟨a0, a1, a2, a3, a4, a5, a6, a7, a8, a9, a10, a11, a12, a13, a14⟩ := hSF; obtain ⟨b0, b1, b2, b3, b4, b5, b6, b7, b8, b9, b10, b11, b12, b13, b14⟩ := HS2.out _ HRv3.out; and_intros <;> first | assumption | kernel_rfl)) ?_
      (try simp only [Act.put, List.setIfInBounds_toArray, List.set_cons_zero, List.set_cons_succ])
      clear hSF
      refine NoPanic.normal ?_
      have HF : Hid (ScI (v3.setCell ⟨sA, 0, none⟩ (.slice (some ⟨gB, 0, none⟩) (n + 1) cB)) base sA (some ⟨gB, 0, none⟩) (n + 1) cB (some ⟨gE, 0, none⟩) cE gx gy st (q ++ [(b, (e, g))]) ∧ Kz [124, 128, 115] w0 (v3.setCell ⟨sA, 0, none⟩ (.slice (some ⟨gB, 0, none⟩) (n + 1) cB)) ∧ Below base w0 (v3.setCell ⟨sA, 0, none⟩ (.slice (some ⟨gB, 0, none⟩) (n + 1) cB)) ∧ ∀ g cs, g ≠ sA → Bk w0 g 115 cs → Bk (v3.setCell ⟨sA, 0, none⟩ (.slice (some ⟨gB, 0, none⟩) (n + 1) cB)) g 115 cs) := Lib.hid (sc18_fin HRv3.out.1 HBv3.out HEv3.out HRv3.out.2.2.2.1 HRv3.out.2.2.2.2 HL.out HLO.out)
      exact hN _ _ _ _ _ _ _ _ _ _ _ _ _ _ _ _ HF
  · go_simp
    obtain ⟨ne, hne⟩ : ∃ z, z = u0.heap.size := ⟨_, rfl⟩
    obtain ⟨v0, hv0⟩ : ∃ z, z = u0.alloc (.cells #[.int .i64 e, .int .i64 g] 128) := ⟨_, rfl⟩
    have HRv0 : Hid (Bk v0 sA 115 #[.slice A n c, .slice none 0 0, .slice none 0 0, .int .i64 gx, .int .i64 gy, .int .i64 st] ∧ Bk v0 ba 124 #[.int .i64 b.px, .int .i64 b.py, .int .i64 b.vx, .int .i64 b.vy, .int .i64 b.ang, .int .i64 b.spin, .int .i64 b.mass, .int .i64 b.inr, .int .i64 b.bou, .int .i64 b.rub, .slice (some ⟨g0, 0, none⟩) 4 cc, .bool b.asl, .int .i64 b.calm] ∧ Bk v0 ia 147 #[.int .i64 e, .int .i64 g, .slice iA iN ic] ∧ Kz [124, 128] w0 v0 ∧ Below base w0 v0) := Lib.hid (by rw [hv0]; obtain ⟨r1, r2, r3, r4, r5⟩ := HRu0.out; exact ⟨r1.alloc _, r2.alloc _, r3.alloc _, r4.alloc _, r5.alloc (Nat.le_trans hbase r5.size) _⟩)
    have HBv0 : Hid (v0.ownsRow base 124 13 (.slice A n c) n (bmCs l)) := Lib.hid (by rw [hv0]; exact HBu0.out.alloc _)
    have HEv0 : Hid (v0.ownsRow base 128 2 (.slice E n ec) n (enCs (q.map Prod.snd))) := Lib.hid (by rw [hv0]; exact HEu0.out.alloc _)
    have Hnev0 : Hid (Bk v0 ne 128 #[.int .i64 e, .int .i64 g]) := Lib.hid (by rw [hv0, hne]; exact Bk.new _ _ _)
    rw [← hv0, ← hne]
    clear hv0 hne
    refine And.intro (HS2.out _ HRv0.out) ?_
    (try simp only [Act.put, List.setIfInBounds_toArray, List.set_cons_zero, List.set_cons_succ])
    refine wpAnyH_two (i := 1) (j := 3) rfl rfl (by kernel_rfl) (by rfl) (by rfl) ?_ ?_
    · have qL : v0.cell? ⟨sA, 0, none⟩ = some (.slice A n c) := HRv0.out.1.cell 0
      go_simp
      refine And.intro (HS2.out _ HRv0.out) ?_
      (try simp only [Act.put, List.setIfInBounds_toArray, List.set_cons_zero, List.set_cons_succ])
      clear qL
      refine wpAnyH_oneW (i := 3) rfl (by kernel_rfl) (by rfl) ?_
      go_simp
      obtain ⟨nb, hnb⟩ : ∃ z, z = v0.heap.size := ⟨_, rfl⟩
      obtain ⟨v1, hv1⟩ : ∃ z, z = v0.alloc (.cells #[.int .i64 b.px, .int .i64 b.py, .int .i64 b.vx, .int .i64 b.vy, .int .i64 b.ang, .int .i64 b.spin, .int .i64 b.mass, .int .i64 b.inr, .int .i64 b.bou, .int .i64 b.rub, .slice (some ⟨g0, 0, none⟩) 4 cc, .bool b.asl, .int .i64 b.calm] 124) := ⟨_, rfl⟩
      have HRv1 : Hid (Bk v1 sA 115 #[.slice A n c, .slice none 0 0, .slice none 0 0, .int .i64 gx, .int .i64 gy, .int .i64 st] ∧ Bk v1 ba 124 #[.int .i64 b.px, .int .i64 b.py, .int .i64 b.vx, .int .i64 b.vy, .int .i64 b.ang, .int .i64 b.spin, .int .i64 b.mass, .int .i64 b.inr, .int .i64 b.bou, .int .i64 b.rub, .slice (some ⟨g0, 0, none⟩) 4 cc, .bool b.asl, .int .i64 b.calm] ∧ Bk v1 ia 147 #[.int .i64 e, .int .i64 g, .slice iA iN ic] ∧ Kz [124, 128] w0 v1 ∧ Below base w0 v1) := Lib.hid (by rw [hv1]; obtain ⟨r1, r2, r3, r4, r5⟩ := HRv0.out; exact ⟨r1.alloc _, r2.alloc _, r3.alloc _, r4.alloc _, r5.alloc (Nat.le_trans hbase r5.size) _⟩)
      have HBv1 : Hid (v1.ownsRow base 124 13 (.slice A n c) n (bmCs l)) := Lib.hid (by rw [hv1]; exact HBv0.out.alloc _)
      have HEv1 : Hid (v1.ownsRow base 128 2 (.slice E n ec) n (enCs (q.map Prod.snd))) := Lib.hid (by rw [hv1]; exact HEv0.out.alloc _)
      have Hnbv1 : Hid (Bk v1 nb 124 #[.int .i64 b.px, .int .i64 b.py, .int .i64 b.vx, .int .i64 b.vy, .int .i64 b.ang, .int .i64 b.spin, .int .i64 b.mass, .int .i64 b.inr, .int .i64 b.bou, .int .i64 b.rub, .slice (some ⟨g0, 0, none⟩) 4 cc, .bool b.asl, .int .i64 b.calm]) := Lib.hid (by rw [hv1, hnb]; exact Bk.new _ _ _)
      have Hnev1 : Hid (Bk v1 ne 128 #[.int .i64 e, .int .i64 g]) := Lib.hid (by rw [hv1]; exact Hnev0.out.alloc _)
      rw [← hv1, ← hnb]
      clear hv1 hnb
      refine And.intro (HS2.out _ HRv1.out) ?_
      (try simp only [Act.put, List.setIfInBounds_toArray, List.set_cons_zero, List.set_cons_succ])
      refine wpAnyH_oneW (i := 4) rfl (by kernel_rfl) (by rfl) ?_
      refine wp_append_one (.tmp 73) (.tmp 75) 112 rfl base 124 iB (.agg #[.int .i64 0, .int .i64 0, .int .i64 0, .int .i64 0, .int .i64 0, .int .i64 0, .int .i64 0, .int .i64 0, .int .i64 0, .int .i64 0, .slice none 0 0, .bool false, .int .i64 0]) 13 120 Try.underlying112 hiB hB0 hB1 hB2 rfl (by decide) (.slice A n c) n (bmCs l) rfl HBv1.out nb 1 124 #[.int .i64 b.px, .int .i64 b.py, .int .i64 b.vx, .int .i64 b.vy, .int .i64 b.ang, .int .i64 b.spin, .int .i64 b.mass, .int .i64 b.inr, .int .i64 b.bou, .int .i64 b.rub, .slice (some ⟨g0, 0, none⟩) 4 cc, .bool b.asl, .int .i64 b.calm] rfl Hnbv1.out rfl (by simp [Value.oneCell']) (n + 1) rfl (by unfold maxLen; omega) (by omega) (Nat.le_trans hbase HRv1.out.2.2.2.2.size) ?_
      intro gB cB v2 hown hgr hat
      have HRv2 : Hid (Bk v2 sA 115 #[.slice A n c, .slice none 0 0, .slice none 0 0, .int .i64 gx, .int .i64 gy, .int .i64 st] ∧ Bk v2 ba 124 #[.int .i64 b.px, .int .i64 b.py, .int .i64 b.vx, .int .i64 b.vy, .int .i64 b.ang, .int .i64 b.spin, .int .i64 b.mass, .int .i64 b.inr, .int .i64 b.bou, .int .i64 b.rub, .slice (some ⟨g0, 0, none⟩) 4 cc, .bool b.asl, .int .i64 b.calm] ∧ Bk v2 ia 147 #[.int .i64 e, .int .i64 g, .slice iA iN ic] ∧ Kz [124, 128] w0 v2 ∧ Below base w0 v2) := Lib.hid (by obtain ⟨r1, r2, r3, r4, r5⟩ := HRv1.out; exact ⟨r1.grown hgr (fun e => own_ne HBv1.out r1 (by decide) e.symm), r2.grown hgr (fun e => hne e.symm), r3.grown hgr (fun e => own_ne HBv1.out r3 (by decide) e.symm), r4.grown HBv1.out hgr (by simp), r5.trans (grown_below HBv1.out hgr (Nat.le_trans hbase r5.size))⟩)
      have HBv2 : Hid (v2.ownsRow base 124 13 (.slice (some ⟨gB, 0, none⟩) (n + 1) cB) (n + 1) (bmCs l ++ #[.int .i64 b.px, .int .i64 b.py, .int .i64 b.vx, .int .i64 b.vy, .int .i64 b.ang, .int .i64 b.spin, .int .i64 b.mass, .int .i64 b.inr, .int .i64 b.bou, .int .i64 b.rub, .slice (some ⟨g0, 0, none⟩) 4 cc, .bool b.asl, .int .i64 b.calm].toList)) := Lib.hid hown
      have HEv2 : Hid (v2.ownsRow base 128 2 (.slice E n ec) n (enCs (q.map Prod.snd))) := Lib.hid (((Kx.refl (B := 0) (F := [124])).grown HBv1.out hgr (Nat.zero_le _) (by simp)).own HEv1.out (by decide))
      have Hnev2 : Hid (Bk v2 ne 128 #[.int .i64 e, .int .i64 g]) := Lib.hid (Hnev1.out.grown hgr (fun e => own_ne HBv1.out Hnev1.out (by decide) e.symm))
      clear hown hgr hat
      refine And.intro (HS2.out _ HRv2.out) ?_
      (try simp only [Act.put, List.setIfInBounds_toArray])
      refine wpAnyH_val (i := 10) (v := .pointer (some ⟨sA, 0, none⟩)) (d := some 82) rfl rfl (by kernel_rfl) (by kernel_rfl) (by kernel_rfl) (fun _ _ _ h => h) (Or.inl ⟨by rfl, fun w hS => by (obtain ⟨h0, h1, h2, h3, h4, h5, h6, h7, h8, h9, h10, h11, h12, h13, h14⟩ := hS; go_simp)⟩) (HS2.out _ HRv2.out) ?_
      (try simp only [Act.put])
      refine wpAnyH_oneW (i := 9) rfl (by kernel_rfl) (by rfl) ?_
      refine wp_append_one (.tmp 77) (.tmp 80) 116 rfl base 128 iE (.agg #[.int .i64 0, .int .i64 0]) 2 16 Try.underlying116 hiE hE0 hE1 hE2 rfl (by decide) (.slice E n ec) n (enCs (q.map Prod.snd)) rfl HEv2.out ne 1 128 #[.int .i64 e, .int .i64 g] rfl Hnev2.out rfl (by simp [Value.oneCell']) (n + 1) rfl (by unfold maxLen; omega) (by omega) (Nat.le_trans hbase HRv2.out.2.2.2.2.size) ?_
      intro gE cE v3 hown hgr hat
      have HRv3 : Hid (Bk v3 sA 115 #[.slice A n c, .slice none 0 0, .slice none 0 0, .int .i64 gx, .int .i64 gy, .int .i64 st] ∧ Bk v3 ba 124 #[.int .i64 b.px, .int .i64 b.py, .int .i64 b.vx, .int .i64 b.vy, .int .i64 b.ang, .int .i64 b.spin, .int .i64 b.mass, .int .i64 b.inr, .int .i64 b.bou, .int .i64 b.rub, .slice (some ⟨g0, 0, none⟩) 4 cc, .bool b.asl, .int .i64 b.calm] ∧ Bk v3 ia 147 #[.int .i64 e, .int .i64 g, .slice iA iN ic] ∧ Kz [124, 128] w0 v3 ∧ Below base w0 v3) := Lib.hid (by obtain ⟨r1, r2, r3, r4, r5⟩ := HRv2.out; exact ⟨r1.grown hgr (fun e => own_ne HEv2.out r1 (by decide) e.symm), r2.grown hgr (fun e => own_ne HEv2.out r2 (by decide) e.symm), r3.grown hgr (fun e => own_ne HEv2.out r3 (by decide) e.symm), r4.grown HEv2.out hgr (by simp), r5.trans (grown_below HEv2.out hgr (Nat.le_trans hbase r5.size))⟩)
      have HEv3 : Hid (v3.ownsRow base 128 2 (.slice (some ⟨gE, 0, none⟩) (n + 1) cE) (n + 1) (enCs (q.map Prod.snd) ++ #[.int .i64 e, .int .i64 g].toList)) := Lib.hid hown
      have HBv3 : Hid (v3.ownsRow base 124 13 (.slice (some ⟨gB, 0, none⟩) (n + 1) cB) (n + 1) (bmCs l ++ #[.int .i64 b.px, .int .i64 b.py, .int .i64 b.vx, .int .i64 b.vy, .int .i64 b.ang, .int .i64 b.spin, .int .i64 b.mass, .int .i64 b.inr, .int .i64 b.bou, .int .i64 b.rub, .slice (some ⟨g0, 0, none⟩) 4 cc, .bool b.asl, .int .i64 b.calm].toList)) := Lib.hid (((Kx.refl (B := 0) (F := [128])).grown HEv2.out hgr (Nat.zero_le _) (by simp)).own HBv2.out (by decide))
      clear hown hgr hat
      refine And.intro (HS2.out _ HRv3.out) ?_
      (try simp only [Act.put])
      have q0 : v3.cell? ⟨sA, 0, none⟩ = some (.slice A n c) := HRv3.out.1.cell 0
      have f0 : v3.frozen? ⟨sA, 0, none⟩ = false := HRv3.out.1.frozen 0
      refine wpAnyH_oneW (i := 11) rfl (by kernel_rfl) (by rfl) ?_
      go_simp
      have hSF := sc18_S HRv3.out.1 HRv3.out.2.1 HRv3.out.2.2.1 (u := .slice (some ⟨gB, 0, none⟩) (n + 1) cB)
      refine And.intro (by (obtain ⟨a0, a1, a2, a3, a4, a5, a6, a7, a8, a9, a10, a11, a12, a13, a14⟩ := hSF; obtain ⟨b0, b1, b2, b3, b4, b5, b6, b7, b8, b9, b10, b11, b12, b13, b14⟩ := HS2.out _ HRv3.out; and_intros <;> assumption)) ?_
      (try simp only [Act.put, List.setIfInBounds_toArray, List.set_cons_zero, List.set_cons_succ])
      refine wpAnyH_oneW (i := 12) rfl (by kernel_rfl) (by rfl) ?_
      go_simp
      refine And.intro (by (obtain ⟨a0, a1, a2, a3, a4, a5, a6, a7, a8, a9, a10, a11, a12, a13, a14⟩ := hSF; obtain ⟨b0, b1, b2, b3, b4, b5, b6, b7, b8, b9, b10, b11, b12, b13, b14⟩ := HS2.out _ HRv3.out; and_intros <;> first | assumption | kernel_rfl)) ?_
      (try simp only [Act.put, List.setIfInBounds_toArray, List.set_cons_zero, List.set_cons_succ])
      clear hSF
      refine NoPanic.normal ?_
      have HF : Hid (ScI (v3.setCell ⟨sA, 0, none⟩ (.slice (some ⟨gB, 0, none⟩) (n + 1) cB)) base sA (some ⟨gB, 0, none⟩) (n + 1) cB (some ⟨gE, 0, none⟩) cE gx gy st (q ++ [(b, (e, g))]) ∧ Kz [124, 128, 115] w0 (v3.setCell ⟨sA, 0, none⟩ (.slice (some ⟨gB, 0, none⟩) (n + 1) cB)) ∧ Below base w0 (v3.setCell ⟨sA, 0, none⟩ (.slice (some ⟨gB, 0, none⟩) (n + 1) cB)) ∧ ∀ g cs, g ≠ sA → Bk w0 g 115 cs → Bk (v3.setCell ⟨sA, 0, none⟩ (.slice (some ⟨gB, 0, none⟩) (n + 1) cB)) g 115 cs) := Lib.hid (sc18_fin HRv3.out.1 HBv3.out HEv3.out HRv3.out.2.2.2.1 HRv3.out.2.2.2.2 HL.out HLO.out)
      exact hN _ _ _ _ _ _ _ _ _ _ _ _ _ _ _ _ HF
    · go_simp
      obtain ⟨nb, hnb⟩ : ∃ z, z = v0.heap.size := ⟨_, rfl⟩
      obtain ⟨v1, hv1⟩ : ∃ z, z = v0.alloc (.cells #[.int .i64 b.px, .int .i64 b.py, .int .i64 b.vx, .int .i64 b.vy, .int .i64 b.ang, .int .i64 b.spin, .int .i64 b.mass, .int .i64 b.inr, .int .i64 b.bou, .int .i64 b.rub, .slice (some ⟨g0, 0, none⟩) 4 cc, .bool b.asl, .int .i64 b.calm] 124) := ⟨_, rfl⟩
      have HRv1 : Hid (Bk v1 sA 115 #[.slice A n c, .slice none 0 0, .slice none 0 0, .int .i64 gx, .int .i64 gy, .int .i64 st] ∧ Bk v1 ba 124 #[.int .i64 b.px, .int .i64 b.py, .int .i64 b.vx, .int .i64 b.vy, .int .i64 b.ang, .int .i64 b.spin, .int .i64 b.mass, .int .i64 b.inr, .int .i64 b.bou, .int .i64 b.rub, .slice (some ⟨g0, 0, none⟩) 4 cc, .bool b.asl, .int .i64 b.calm] ∧ Bk v1 ia 147 #[.int .i64 e, .int .i64 g, .slice iA iN ic] ∧ Kz [124, 128] w0 v1 ∧ Below base w0 v1) := Lib.hid (by rw [hv1]; obtain ⟨r1, r2, r3, r4, r5⟩ := HRv0.out; exact ⟨r1.alloc _, r2.alloc _, r3.alloc _, r4.alloc _, r5.alloc (Nat.le_trans hbase r5.size) _⟩)
      have HBv1 : Hid (v1.ownsRow base 124 13 (.slice A n c) n (bmCs l)) := Lib.hid (by rw [hv1]; exact HBv0.out.alloc _)
      have HEv1 : Hid (v1.ownsRow base 128 2 (.slice E n ec) n (enCs (q.map Prod.snd))) := Lib.hid (by rw [hv1]; exact HEv0.out.alloc _)
      have Hnbv1 : Hid (Bk v1 nb 124 #[.int .i64 b.px, .int .i64 b.py, .int .i64 b.vx, .int .i64 b.vy, .int .i64 b.ang, .int .i64 b.spin, .int .i64 b.mass, .int .i64 b.inr, .int .i64 b.bou, .int .i64 b.rub, .slice (some ⟨g0, 0, none⟩) 4 cc, .bool b.asl, .int .i64 b.calm]) := Lib.hid (by rw [hv1, hnb]; exact Bk.new _ _ _)
      have Hnev1 : Hid (Bk v1 ne 128 #[.int .i64 e, .int .i64 g]) := Lib.hid (by rw [hv1]; exact Hnev0.out.alloc _)
      rw [← hv1, ← hnb]
      clear hv1 hnb
      refine And.intro (HS2.out _ HRv1.out) ?_
      (try simp only [Act.put, List.setIfInBounds_toArray, List.set_cons_zero, List.set_cons_succ])
      refine wpAnyH_oneW (i := 1) rfl (by kernel_rfl) (by rfl) ?_
      have qL : v1.cell? ⟨sA, 0, none⟩ = some (.slice A n c) := HRv1.out.1.cell 0
      go_simp
      refine And.intro (HS2.out _ HRv1.out) ?_
      (try simp only [Act.put, List.setIfInBounds_toArray, List.set_cons_zero, List.set_cons_succ])
      clear qL
      refine wpAnyH_oneW (i := 4) rfl (by kernel_rfl) (by rfl) ?_
      refine wp_append_one (.tmp 73) (.tmp 75) 112 rfl base 124 iB (.agg #[.int .i64 0, .int .i64 0, .int .i64 0, .int .i64 0, .int .i64 0, .int .i64 0, .int .i64 0, .int .i64 0, .int .i64 0, .int .i64 0, .slice none 0 0, .bool false, .int .i64 0]) 13 120 Try.underlying112 hiB hB0 hB1 hB2 rfl (by decide) (.slice A n c) n (bmCs l) rfl HBv1.out nb 1 124 #[.int .i64 b.px, .int .i64 b.py, .int .i64 b.vx, .int .i64 b.vy, .int .i64 b.ang, .int .i64 b.spin, .int .i64 b.mass, .int .i64 b.inr, .int .i64 b.bou, .int .i64 b.rub, .slice (some ⟨g0, 0, none⟩) 4 cc, .bool b.asl, .int .i64 b.calm] rfl Hnbv1.out rfl (by simp [Value.oneCell']) (n + 1) rfl (by unfold maxLen; omega) (by omega) (Nat.le_trans hbase HRv1.out.2.2.2.2.size) ?_
      intro gB cB v2 hown hgr hat
      have HRv2 : Hid (Bk v2 sA 115 #[.slice A n c, .slice none 0 0, .slice none 0 0, .int .i64 gx, .int .i64 gy, .int .i64 st] ∧ Bk v2 ba 124 #[.int .i64 b.px, .int .i64 b.py, .int .i64 b.vx, .int .i64 b.vy, .int .i64 b.ang, .int .i64 b.spin, .int .i64 b.mass, .int .i64 b.inr, .int .i64 b.bou, .int .i64 b.rub, .slice (some ⟨g0, 0, none⟩) 4 cc, .bool b.asl, .int .i64 b.calm] ∧ Bk v2 ia 147 #[.int .i64 e, .int .i64 g, .slice iA iN ic] ∧ Kz [124, 128] w0 v2 ∧ Below base w0 v2) := Lib.hid (by obtain ⟨r1, r2, r3, r4, r5⟩ := HRv1.out; exact ⟨r1.grown hgr (fun e => own_ne HBv1.out r1 (by decide) e.symm), r2.grown hgr (fun e => hne e.symm), r3.grown hgr (fun e => own_ne HBv1.out r3 (by decide) e.symm), r4.grown HBv1.out hgr (by simp), r5.trans (grown_below HBv1.out hgr (Nat.le_trans hbase r5.size))⟩)
      have HBv2 : Hid (v2.ownsRow base 124 13 (.slice (some ⟨gB, 0, none⟩) (n + 1) cB) (n + 1) (bmCs l ++ #[.int .i64 b.px, .int .i64 b.py, .int .i64 b.vx, .int .i64 b.vy, .int .i64 b.ang, .int .i64 b.spin, .int .i64 b.mass, .int .i64 b.inr, .int .i64 b.bou, .int .i64 b.rub, .slice (some ⟨g0, 0, none⟩) 4 cc, .bool b.asl, .int .i64 b.calm].toList)) := Lib.hid hown
      have HEv2 : Hid (v2.ownsRow base 128 2 (.slice E n ec) n (enCs (q.map Prod.snd))) := Lib.hid (((Kx.refl (B := 0) (F := [124])).grown HBv1.out hgr (Nat.zero_le _) (by simp)).own HEv1.out (by decide))
      have Hnev2 : Hid (Bk v2 ne 128 #[.int .i64 e, .int .i64 g]) := Lib.hid (Hnev1.out.grown hgr (fun e => own_ne HBv1.out Hnev1.out (by decide) e.symm))
      clear hown hgr hat
      refine And.intro (HS2.out _ HRv2.out) ?_
      (try simp only [Act.put, List.setIfInBounds_toArray])
      refine wpAnyH_val (i := 10) (v := .pointer (some ⟨sA, 0, none⟩)) (d := some 82) rfl rfl (by kernel_rfl) (by kernel_rfl) (by kernel_rfl) (fun _ _ _ h => h) (Or.inl ⟨by rfl, fun w hS => by (obtain ⟨h0, h1, h2, h3, h4, h5, h6, h7, h8, h9, h10, h11, h12, h13, h14⟩ := hS; go_simp)⟩) (HS2.out _ HRv2.out) ?_
      (try simp only [Act.put])
      refine wpAnyH_oneW (i := 9) rfl (by kernel_rfl) (by rfl) ?_
      refine wp_append_one (.tmp 77) (.tmp 80) 116 rfl base 128 iE (.agg #[.int .i64 0, .int .i64 0]) 2 16 Try.underlying116 hiE hE0 hE1 hE2 rfl (by decide) (.slice E n ec) n (enCs (q.map Prod.snd)) rfl HEv2.out ne 1 128 #[.int .i64 e, .int .i64 g] rfl Hnev2.out rfl (by simp [Value.oneCell']) (n + 1) rfl (by unfold maxLen; omega) (by omega) (Nat.le_trans hbase HRv2.out.2.2.2.2.size) ?_
      intro gE cE v3 hown hgr hat
      have HRv3 : Hid (Bk v3 sA 115 #[.slice A n c, .slice none 0 0, .slice none 0 0, .int .i64 gx, .int .i64 gy, .int .i64 st] ∧ Bk v3 ba 124 #[.int .i64 b.px, .int .i64 b.py, .int .i64 b.vx, .int .i64 b.vy, .int .i64 b.ang, .int .i64 b.spin, .int .i64 b.mass, .int .i64 b.inr, .int .i64 b.bou, .int .i64 b.rub, .slice (some ⟨g0, 0, none⟩) 4 cc, .bool b.asl, .int .i64 b.calm] ∧ Bk v3 ia 147 #[.int .i64 e, .int .i64 g, .slice iA iN ic] ∧ Kz [124, 128] w0 v3 ∧ Below base w0 v3) := Lib.hid (by obtain ⟨r1, r2, r3, r4, r5⟩ := HRv2.out; exact ⟨r1.grown hgr (fun e => own_ne HEv2.out r1 (by decide) e.symm), r2.grown hgr (fun e => own_ne HEv2.out r2 (by decide) e.symm), r3.grown hgr (fun e => own_ne HEv2.out r3 (by decide) e.symm), r4.grown HEv2.out hgr (by simp), r5.trans (grown_below HEv2.out hgr (Nat.le_trans hbase r5.size))⟩)
      have HEv3 : Hid (v3.ownsRow base 128 2 (.slice (some ⟨gE, 0, none⟩) (n + 1) cE) (n + 1) (enCs (q.map Prod.snd) ++ #[.int .i64 e, .int .i64 g].toList)) := Lib.hid hown
      have HBv3 : Hid (v3.ownsRow base 124 13 (.slice (some ⟨gB, 0, none⟩) (n + 1) cB) (n + 1) (bmCs l ++ #[.int .i64 b.px, .int .i64 b.py, .int .i64 b.vx, .int .i64 b.vy, .int .i64 b.ang, .int .i64 b.spin, .int .i64 b.mass, .int .i64 b.inr, .int .i64 b.bou, .int .i64 b.rub, .slice (some ⟨g0, 0, none⟩) 4 cc, .bool b.asl, .int .i64 b.calm].toList)) := Lib.hid (((Kx.refl (B := 0) (F := [128])).grown HEv2.out hgr (Nat.zero_le _) (by simp)).own HBv2.out (by decide))
      clear hown hgr hat
      refine And.intro (HS2.out _ HRv3.out) ?_
      (try simp only [Act.put])
      have q0 : v3.cell? ⟨sA, 0, none⟩ = some (.slice A n c) := HRv3.out.1.cell 0
      have f0 : v3.frozen? ⟨sA, 0, none⟩ = false := HRv3.out.1.frozen 0
      refine wpAnyH_oneW (i := 11) rfl (by kernel_rfl) (by rfl) ?_
      go_simp
      have hSF := sc18_S HRv3.out.1 HRv3.out.2.1 HRv3.out.2.2.1 (u := .slice (some ⟨gB, 0, none⟩) (n + 1) cB)
      refine And.intro (by (obtain ⟨a0, a1, a2, a3, a4, a5, a6, a7, a8, a9, a10, a11, a12, a13, a14⟩ := hSF; obtain ⟨b0, b1, b2, b3, b4, b5, b6, b7, b8, b9, b10, b11, b12, b13, b14⟩ := HS2.out _ HRv3.out; and_intros <;> assumption)) ?_
      (try simp only [Act.put, List.setIfInBounds_toArray, List.set_cons_zero, List.set_cons_succ])
      refine wpAnyH_oneW (i := 12) rfl (by kernel_rfl) (by rfl) ?_
      go_simp
      refine And.intro (by (obtain ⟨a0, a1, a2, a3, a4, a5, a6, a7, a8, a9, a10, a11, a12, a13, a14⟩ := hSF; obtain ⟨b0, b1, b2, b3, b4, b5, b6, b7, b8, b9, b10, b11, b12, b13, b14⟩ := HS2.out _ HRv3.out; and_intros <;> first | assumption | kernel_rfl)) ?_
      (try simp only [Act.put, List.setIfInBounds_toArray, List.set_cons_zero, List.set_cons_succ])
      clear hSF
      refine NoPanic.normal ?_
      have HF : Hid (ScI (v3.setCell ⟨sA, 0, none⟩ (.slice (some ⟨gB, 0, none⟩) (n + 1) cB)) base sA (some ⟨gB, 0, none⟩) (n + 1) cB (some ⟨gE, 0, none⟩) cE gx gy st (q ++ [(b, (e, g))]) ∧ Kz [124, 128, 115] w0 (v3.setCell ⟨sA, 0, none⟩ (.slice (some ⟨gB, 0, none⟩) (n + 1) cB)) ∧ Below base w0 (v3.setCell ⟨sA, 0, none⟩ (.slice (some ⟨gB, 0, none⟩) (n + 1) cB)) ∧ ∀ g cs, g ≠ sA → Bk w0 g 115 cs → Bk (v3.setCell ⟨sA, 0, none⟩ (.slice (some ⟨gB, 0, none⟩) (n + 1) cB)) g 115 cs) := Lib.hid (sc18_fin HRv3.out.1 HBv3.out HEv3.out HRv3.out.2.2.2.1 HRv3.out.2.2.2.2 HL.out HLO.out)
      exact hN _ _ _ _ _ _ _ _ _ _ _ _ _ _ _ _ HF
end Go.Proofs.Ytnidcmhfbkdioaa
