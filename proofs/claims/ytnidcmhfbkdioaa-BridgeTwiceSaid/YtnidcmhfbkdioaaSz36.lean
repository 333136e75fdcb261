/-
  Writing one body back: its place, its motion. Conditions: what is read can be read; rows of components apart.
-/
import Derived.Test.YtnidcmhfbkdioaaSz35
import Derived.Test.YtnidcmhfbkdioaaSz12
namespace Go.Proofs.Ytnidcmhfbkdioaa
open Go.RowKit
set_option maxRecDepth 100000
noncomputable def bw20 : Code := (Try.f66.body.bind (rgnN 20)).getD .skip
set_option maxHeartbeats 8000000 in
theorem bw20_any {x0 x1 x2 x3 x4 x5 x6 x7 x8 x9 x11 x13 x14 x17 x18 x19 x20 x21 x22 x23 x24 x25 x26 x27 x28 x29 x30 x31 x32 x33 x34 x35 x36 x37 x38 x39 x40 x41 x42 x43 x44 x45 x46 x47 x48 x49 x50 x51 x52 x53 x54 x55 x56 x57 x58 x59 x60 x61 x62 x63 x64 x65 x66 x67 x68 x69 x70 x71 x72 x73 x74 x75 x76 x77 x78 x79 x80 x81 x82 x83 x84 x85 x86 x87 x88 x89 x90 x91 x92 x93 x94 x95 x96 x97 x98 x99 x100 x101 x102 x103 x104 x105 x106 x107 x108 x109 x110 x111 x112 x113 x114 x115 x116 x117 x118 x119 x120 x121 x122 x123 x124 x125 x126 x127 x128 x129 x130 x131 x132 x133 x134 x135 x136 x137 x138 x139 x140 x141 x142 x143 x144 x145 x146 x147 x148 x149 x150 x151 x152 x153 x154 x155 x156 x157 x158 x159 x160 x161 x162 x163 x164 x165 x166 x167 x168 x169 x170 x171 x172 x173 : Value} {Q : Exit → Act → World → Prop} {w0 : World} {base mA oA ba k n g ib io im ic kn kc gn gc : Nat} {kA gA : Option Addr} {ks : List Kd} {d : ByteArray × List Fd} {gens : List Int} {its : List It} {x : It} {e q m p0 p1 p2 : Int}
    (hO : OutS w0 base ⟨kA, kn, kc, ks, gA, gn, gc, gens, some ⟨ib, io, none⟩, im, ic, its⟩) (hx : its[k]? = some x) (hA : x.A = some ⟨g, 0, none⟩) (hn : x.n = n) (_he : x.e = e) (_hq : x.g = q) (hn2 : n ≤ 1000) (hd : 0 ≤ m → ∃ (K : Nat) (z : Kd), m = K ∧ ks[K]? = some z ∧ z.p = d) (hnn : ∀ c ∈ x.cms, 0 ≤ c.k)
    (hS : w0.cell? ⟨oA, 0, none⟩ = some (.slice kA kn kc) ∧ w0.cell? ⟨oA, 2, none⟩ = some (.slice (some ⟨ib, io, none⟩) im ic) ∧ w0.cell? ⟨ib, io + k * 3, none⟩ = some (.int .i64 e) ∧ w0.cell? ⟨ib, io + k * 3 + 1, none⟩ = some (.int .i64 q) ∧ w0.cell? ⟨ib, io + k * 3 + 2, none⟩ = some (.slice (some ⟨g, 0, none⟩) n n) ∧ w0.cell? ⟨mA, 0, none⟩ = some (.int .i64 m) ∧ w0.cell? ⟨ba, 0, none⟩ = some (.int .i64 p0) ∧ w0.cell? ⟨ba, 1, none⟩ = some (.int .i64 p1) ∧ w0.cell? ⟨ba, 4, none⟩ = some (.int .i64 p2))
    (hbase : base ≤ w0.heap.size)
    (hN : ∀ (y83 y84 y85 y86 y87 y88 y89 y90 y91 y92 y93 y94 y95 y96 y97 y98 y99 y100 y101 : Value) (l' : List Cm) (w' : World), Hid (OutS w' base ⟨kA, kn, kc, ks, gA, gn, gc, gens, some ⟨ib, io, none⟩, im, ic, its.set k { x with cms := l' }⟩ ∧ (its.set k { x with cms := l' }).map It.p = (its.map It.p).set k (updI m (fitF d.1 d.2 [p0, p1, p2]).1 x.p) ∧ Kx 0 [166] w0 w' ∧ Below base w0 w') → Q .normal ⟨#[x0, x1, x2, x3, x4, x5, x6, x7, x8, x9, .pointer (some ⟨mA, 0, none⟩), x11, .pointer (some ⟨oA, 0, none⟩), x13, x14, .int .i64 (k : Int), .pointer (some ⟨ba, 0, none⟩), x17, x18, x19, x20, x21, x22, x23, x24, x25, x26, x27, x28, x29, x30, x31, x32, x33, x34, x35, x36, x37, x38, x39, x40, x41, x42, x43, x44, x45, x46, x47, x48, x49, x50, x51, x52, x53, x54, x55, x56, x57, x58, x59, x60, x61, x62, x63, x64, x65, x66, x67, x68, x69, x70, x71, x72, x73, x74, x75, x76, x77, x78, x79, x80, x81, x82, y83, y84, y85, y86, y87, y88, y89, y90, y91, y92, y93, y94, y95, y96, y97, y98, y99, y100, y101, x102, x103, x104, x105, x106, x107, x108, x109, x110, x111, x112, x113, x114, x115, x116, x117, x118, x119, x120, x121, x122, x123, x124, x125, x126, x127, x128, x129, x130, x131, x132, x133, x134, x135, x136, x137, x138, x139, x140, x141, x142, x143, x144, x145, x146, x147, x148, x149, x150, x151, x152, x153, x154, x155, x156, x157, x158, x159, x160, x161, x162, x163, x164, x165, x166, x167, x168, x169, x170, x171, x172, x173], []⟩ w') :
    Code.wp Try.prog bw20 Q ⟨#[x0, x1, x2, x3, x4, x5, x6, x7, x8, x9, .pointer (some ⟨mA, 0, none⟩), x11, .pointer (some ⟨oA, 0, none⟩), x13, x14, .int .i64 (k : Int), .pointer (some ⟨ba, 0, none⟩), x17, x18, x19, x20, x21, x22, x23, x24, x25, x26, x27, x28, x29, x30, x31, x32, x33, x34, x35, x36, x37, x38, x39, x40, x41, x42, x43, x44, x45, x46, x47, x48, x49, x50, x51, x52, x53, x54, x55, x56, x57, x58, x59, x60, x61, x62, x63, x64, x65, x66, x67, x68, x69, x70, x71, x72, x73, x74, x75, x76, x77, x78, x79, x80, x81, x82, x83, x84, x85, x86, x87, x88, x89, x90, x91, x92, x93, x94, x95, x96, x97, x98, x99, x100, x101, x102, x103, x104, x105, x106, x107, x108, x109, x110, x111, x112, x113, x114, x115, x116, x117, x118, x119, x120, x121, x122, x123, x124, x125, x126, x127, x128, x129, x130, x131, x132, x133, x134, x135, x136, x137, x138, x139, x140, x141, x142, x143, x144, x145, x146, x147, x148, x149, x150, x151, x152, x153, x154, x155, x156, x157, x158, x159, x160, x161, x162, x163, x164, x165, x166, x167, x168, x169, x170, x171, x172, x173], []⟩ w0 := by
  conv => arg 2; whnf
  have hkim : k < im := by have h1 := (List.getElem?_eq_some_iff.1 hx).1; have h2 := hO.wd.its.len; dsimp only at h2; omega
  have hkz : (k : Int) < im := by omega
  have hkz0 : (0 : Int) ≤ k := by omega
  have hIC : im ≤ ic := hO.wd.its.cap
  have hIC2 : ic ≤ 9223372036854775807 := hO.wd.its.cap2
  obtain ⟨u0, hu0⟩ : ∃ z, z = w0.drew := ⟨_, rfl⟩
  have hb0 : Below w0.heap.size w0 u0 := by rw [hu0]; exact (Below.refl _ _).drew
  obtain ⟨W, hW⟩ : ∃ z, z = (u0.alloc (.cells #[.int .i64 p0, .int .i64 p1, .int .i64 p2] 3)) := ⟨_, rfl⟩
  obtain ⟨va, hva⟩ : ∃ z, z = u0.heap.size := ⟨_, rfl⟩
  have hbW : Below w0.heap.size w0 W := by rw [hW]; exact hb0.alloc hb0.size _
  have HOW : Hid (OutS W base ⟨kA, kn, kc, ks, gA, gn, gc, gens, some ⟨ib, io, none⟩, im, ic, its⟩) := Lib.hid (hO.keep (F := []) (Kx.of_below hbW) (by simp) (by simp) (by simp) (by simp) (by simp))
  have HBW : Hid (Kx 0 [166] w0 W ∧ Below base w0 W) := Lib.hid ⟨Kx.of_below hbW, hbW.mono hbase⟩
  have HXX : Hid (its[k]? = some x ∧ x.A = some ⟨g, 0, none⟩) := Lib.hid ⟨hx, hA⟩
  have HSET : Hid (Calls Try.prog 153 #[.slice kA kn kc, .agg #[.int .i64 e, .int .i64 q, .slice (some ⟨g, 0, none⟩) n n], .int .i64 m, .slice (some ⟨va, 0, none⟩) 3 3] W fun en w' => en = .returned (.tuple #[]) ∧ ∃ l', Hid (SeI w' g m (fitF d.1 d.2 [p0, p1, p2]).1 x.cms l' x.cms.length ∧ Fq [g] W w')) := Lib.hid (by
    have hmem := List.mem_of_getElem? hx
    obtain ⟨g0, f1, f2, f3, f4⟩ := HOW.out.sp.row x hmem
    obtain rfl : g0 = g := by rw [hA] at f1; injection f1 with f1; injection f1 with f1; exact f1.symm
    have hcs := (HOW.out.wd.its.ok x hmem).cs
    have hbk : Bk W va 3 #[.int .i64 p0, .int .i64 p1, .int .i64 p2] := by rw [hW, hva]; exact Bk.new _ _ _
    exact set_any (vs := [p0, p1, p2]) HOW.out.wd.ks (by rw [← hn]; exact hcs.len) hn2 f4 hcs.ok (RdY.of_bk hbk rfl fun j u hu => by simpa using hu) rfl (Nat.le_refl _) (by decide) fun c hc hk => (by
      obtain ⟨K, z, e1, e2, e3⟩ := hd (by rw [← hk]; exact hnn c hc)
      exact ⟨K, z, e1, e2, by rw [← e3]; rfl⟩))
  have HSS : Hid (u0.cell? ⟨oA, 0, none⟩ = some (.slice kA kn kc) ∧ u0.cell? ⟨oA, 2, none⟩ = some (.slice (some ⟨ib, io, none⟩) im ic) ∧ u0.cell? ⟨ib, io + k * 3, none⟩ = some (.int .i64 e) ∧ u0.cell? ⟨ib, io + k * 3 + 1, none⟩ = some (.int .i64 q) ∧ u0.cell? ⟨ib, io + k * 3 + 2, none⟩ = some (.slice (some ⟨g, 0, none⟩) n n) ∧ u0.cell? ⟨mA, 0, none⟩ = some (.int .i64 m) ∧ u0.cell? ⟨ba, 0, none⟩ = some (.int .i64 p0) ∧ u0.cell? ⟨ba, 1, none⟩ = some (.int .i64 p1) ∧ u0.cell? ⟨ba, 4, none⟩ = some (.int .i64 p2)) := Lib.hid (by rw [hu0]; exact hS)
  have HSW : Hid (W.cell? ⟨oA, 0, none⟩ = some (.slice kA kn kc) ∧ W.cell? ⟨oA, 2, none⟩ = some (.slice (some ⟨ib, io, none⟩) im ic) ∧ W.cell? ⟨ib, io + k * 3, none⟩ = some (.int .i64 e) ∧ W.cell? ⟨ib, io + k * 3 + 1, none⟩ = some (.int .i64 q) ∧ W.cell? ⟨ib, io + k * 3 + 2, none⟩ = some (.slice (some ⟨g, 0, none⟩) n n) ∧ W.cell? ⟨mA, 0, none⟩ = some (.int .i64 m) ∧ W.cell? ⟨ba, 0, none⟩ = some (.int .i64 p0) ∧ W.cell? ⟨ba, 1, none⟩ = some (.int .i64 p1) ∧ W.cell? ⟨ba, 4, none⟩ = some (.int .i64 p2)) := Lib.hid (by
    have hw : ∀ p u, u0.cell? p = some u → W.cell? p = some u := fun p u h => by rw [hW]; exact (((Below.refl u0.heap.size u0).alloc (Nat.le_refl _) _).cell (World.block_lt_of_cell? _ _ h)).trans h
    obtain ⟨h0, h1, h2, h3, h4, h5, h6, h7, h8⟩ := HSS.out
    exact ⟨hw _ _ h0, hw _ _ h1, hw _ _ h2, hw _ _ h3, hw _ _ h4, hw _ _ h5, hw _ _ h6, hw _ _ h7, hw _ _ h8⟩)
  clear hO hx hA hn _he _hq hd hnn hS hb0 hbW hbase
  refine wp_region_noPanic ?_
  refine wp_region_L (S := fun wz => wz.cell? ⟨oA, 0, none⟩ = some (.slice kA kn kc) ∧ wz.cell? ⟨oA, 2, none⟩ = some (.slice (some ⟨ib, io, none⟩) im ic) ∧ wz.cell? ⟨ib, io + k * 3, none⟩ = some (.int .i64 e) ∧ wz.cell? ⟨ib, io + k * 3 + 1, none⟩ = some (.int .i64 q) ∧ wz.cell? ⟨ib, io + k * 3 + 2, none⟩ = some (.slice (some ⟨g, 0, none⟩) n n) ∧ wz.cell? ⟨mA, 0, none⟩ = some (.int .i64 m) ∧ wz.cell? ⟨ba, 0, none⟩ = some (.int .i64 p0) ∧ wz.cell? ⟨ba, 1, none⟩ = some (.int .i64 p1) ∧ wz.cell? ⟨ba, 4, none⟩ = some (.int .i64 p2)) (late := [18]) (by kernel_rfl) ?_
  rw [← hu0]
  clear hu0
  refine wpAnyL_val (i := 0) (v := .pointer (some ⟨oA, 0, none⟩)) (d := some 83) rfl rfl (by kernel_rfl) (by kernel_rfl) (by kernel_rfl) (by kernel_rfl) (fun _ _ _ h => h) (Or.inl ⟨by rfl, fun w hS => by (obtain ⟨h0, h1, h2, h3, h4, h5, h6, h7, h8⟩ := hS; go_simp)⟩) HSS.out ?_
  (try simp only [Act.put, List.setIfInBounds_toArray, List.set_cons_zero, List.set_cons_succ])
  refine wpAnyL_val (i := 1) (v := .slice kA kn kc) (d := some 84) rfl rfl (by kernel_rfl) (by kernel_rfl) (by kernel_rfl) (by kernel_rfl) (fun _ _ _ h => h) (Or.inl ⟨by rfl, fun w hS => by (obtain ⟨h0, h1, h2, h3, h4, h5, h6, h7, h8⟩ := hS; go_simp)⟩) HSS.out ?_
  (try simp only [Act.put, List.setIfInBounds_toArray, List.set_cons_zero, List.set_cons_succ])
  refine wpAnyL_val (i := 2) (v := .pointer (some ⟨oA, 2, none⟩)) (d := some 85) rfl rfl (by kernel_rfl) (by kernel_rfl) (by kernel_rfl) (by kernel_rfl) (fun _ _ _ h => h) (Or.inl ⟨by rfl, fun w hS => by (obtain ⟨h0, h1, h2, h3, h4, h5, h6, h7, h8⟩ := hS; go_simp)⟩) HSS.out ?_
  (try simp only [Act.put, List.setIfInBounds_toArray, List.set_cons_zero, List.set_cons_succ])
  refine wpAnyL_val (i := 3) (v := .slice (some ⟨ib, io, none⟩) im ic) (d := some 86) rfl rfl (by kernel_rfl) (by kernel_rfl) (by kernel_rfl) (by kernel_rfl) (fun _ _ _ h => h) (Or.inl ⟨by rfl, fun w hS => by (obtain ⟨h0, h1, h2, h3, h4, h5, h6, h7, h8⟩ := hS; go_simp)⟩) HSS.out ?_
  (try simp only [Act.put, List.setIfInBounds_toArray, List.set_cons_zero, List.set_cons_succ])
  refine wpAnyL_val (i := 4) (v := .int .i64 (k : Int)) (d := some 87) rfl rfl (by kernel_rfl) (by kernel_rfl) (by kernel_rfl) (by kernel_rfl) (fun _ _ _ h => h) (Or.inl ⟨by rfl, fun w hS => by (obtain ⟨h0, h1, h2, h3, h4, h5, h6, h7, h8⟩ := hS; go_simp)⟩) HSS.out ?_
  (try simp only [Act.put, List.setIfInBounds_toArray, List.set_cons_zero, List.set_cons_succ])
  refine wpAnyL_val (i := 5) (v := .pointer (some ⟨ib, io + k * 3, none⟩)) (d := some 88) rfl rfl (by kernel_rfl) (by kernel_rfl) (by kernel_rfl) (by kernel_rfl) (fun _ _ _ h => h) (Or.inl ⟨by rfl, fun w hS => by (obtain ⟨h0, h1, h2, h3, h4, h5, h6, h7, h8⟩ := hS; go_simp)⟩) HSS.out ?_
  (try simp only [Act.put, List.setIfInBounds_toArray, List.set_cons_zero, List.set_cons_succ])
  refine wpAnyL_val (i := 6) (v := .agg #[.int .i64 e, .int .i64 q, .slice (some ⟨g, 0, none⟩) n n]) (d := some 89) rfl rfl (by kernel_rfl) (by kernel_rfl) (by kernel_rfl) (by kernel_rfl) (fun _ _ _ h => h) (Or.inl ⟨by rfl, fun w hS => by (obtain ⟨h0, h1, h2, h3, h4, h5, h6, h7, h8⟩ := hS; go_simp)⟩) HSS.out ?_
  (try simp only [Act.put, List.setIfInBounds_toArray, List.set_cons_zero, List.set_cons_succ])
  refine wpAnyL_val (i := 7) (v := .pointer (some ⟨mA, 0, none⟩)) (d := some 90) rfl rfl (by kernel_rfl) (by kernel_rfl) (by kernel_rfl) (by kernel_rfl) (fun _ _ _ h => h) (Or.inl ⟨by rfl, fun w hS => by (obtain ⟨h0, h1, h2, h3, h4, h5, h6, h7, h8⟩ := hS; go_simp)⟩) HSS.out ?_
  (try simp only [Act.put, List.setIfInBounds_toArray, List.set_cons_zero, List.set_cons_succ])
  refine wpAnyL_val (i := 8) (v := .int .i64 m) (d := some 91) rfl rfl (by kernel_rfl) (by kernel_rfl) (by kernel_rfl) (by kernel_rfl) (fun _ _ _ h => h) (Or.inl ⟨by rfl, fun w hS => by (obtain ⟨h0, h1, h2, h3, h4, h5, h6, h7, h8⟩ := hS; go_simp)⟩) HSS.out ?_
  (try simp only [Act.put, List.setIfInBounds_toArray, List.set_cons_zero, List.set_cons_succ])
  refine wpAnyL_val (i := 9) (v := .pointer (some ⟨ba, 0, none⟩)) (d := some 92) rfl rfl (by kernel_rfl) (by kernel_rfl) (by kernel_rfl) (by kernel_rfl) (fun _ _ _ h => h) (Or.inl ⟨by rfl, fun w hS => by (obtain ⟨h0, h1, h2, h3, h4, h5, h6, h7, h8⟩ := hS; go_simp)⟩) HSS.out ?_
  (try simp only [Act.put, List.setIfInBounds_toArray, List.set_cons_zero, List.set_cons_succ])
  refine wpAnyL_val (i := 10) (v := .pointer (some ⟨ba, 0, none⟩)) (d := some 93) rfl rfl (by kernel_rfl) (by kernel_rfl) (by kernel_rfl) (by kernel_rfl) (fun _ _ _ h => h) (Or.inl ⟨by rfl, fun w hS => by (obtain ⟨h0, h1, h2, h3, h4, h5, h6, h7, h8⟩ := hS; go_simp)⟩) HSS.out ?_
  (try simp only [Act.put, List.setIfInBounds_toArray, List.set_cons_zero, List.set_cons_succ])
  refine wpAnyL_val (i := 11) (v := .int .i64 p0) (d := some 94) rfl rfl (by kernel_rfl) (by kernel_rfl) (by kernel_rfl) (by kernel_rfl) (fun _ _ _ h => h) (Or.inl ⟨by rfl, fun w hS => by (obtain ⟨h0, h1, h2, h3, h4, h5, h6, h7, h8⟩ := hS; go_simp)⟩) HSS.out ?_
  (try simp only [Act.put, List.setIfInBounds_toArray, List.set_cons_zero, List.set_cons_succ])
  refine wpAnyL_val (i := 12) (v := .pointer (some ⟨ba, 0, none⟩)) (d := some 95) rfl rfl (by kernel_rfl) (by kernel_rfl) (by kernel_rfl) (by kernel_rfl) (fun _ _ _ h => h) (Or.inl ⟨by rfl, fun w hS => by (obtain ⟨h0, h1, h2, h3, h4, h5, h6, h7, h8⟩ := hS; go_simp)⟩) HSS.out ?_
  (try simp only [Act.put, List.setIfInBounds_toArray, List.set_cons_zero, List.set_cons_succ])
  refine wpAnyL_val (i := 13) (v := .pointer (some ⟨ba, 1, none⟩)) (d := some 96) rfl rfl (by kernel_rfl) (by kernel_rfl) (by kernel_rfl) (by kernel_rfl) (fun _ _ _ h => h) (Or.inl ⟨by rfl, fun w hS => by (obtain ⟨h0, h1, h2, h3, h4, h5, h6, h7, h8⟩ := hS; go_simp)⟩) HSS.out ?_
  (try simp only [Act.put, List.setIfInBounds_toArray, List.set_cons_zero, List.set_cons_succ])
  refine wpAnyL_val (i := 14) (v := .int .i64 p1) (d := some 97) rfl rfl (by kernel_rfl) (by kernel_rfl) (by kernel_rfl) (by kernel_rfl) (fun _ _ _ h => h) (Or.inl ⟨by rfl, fun w hS => by (obtain ⟨h0, h1, h2, h3, h4, h5, h6, h7, h8⟩ := hS; go_simp)⟩) HSS.out ?_
  (try simp only [Act.put, List.setIfInBounds_toArray, List.set_cons_zero, List.set_cons_succ])
  refine wpAnyL_val (i := 15) (v := .pointer (some ⟨ba, 4, none⟩)) (d := some 98) rfl rfl (by kernel_rfl) (by kernel_rfl) (by kernel_rfl) (by kernel_rfl) (fun _ _ _ h => h) (Or.inl ⟨by rfl, fun w hS => by (obtain ⟨h0, h1, h2, h3, h4, h5, h6, h7, h8⟩ := hS; go_simp)⟩) HSS.out ?_
  (try simp only [Act.put, List.setIfInBounds_toArray, List.set_cons_zero, List.set_cons_succ])
  refine wpAnyL_val (i := 16) (v := .int .i64 p2) (d := some 99) rfl rfl (by kernel_rfl) (by kernel_rfl) (by kernel_rfl) (by kernel_rfl) (fun _ _ _ h => h) (Or.inl ⟨by rfl, fun w hS => by (obtain ⟨h0, h1, h2, h3, h4, h5, h6, h7, h8⟩ := hS; go_simp)⟩) HSS.out ?_
  (try simp only [Act.put, List.setIfInBounds_toArray, List.set_cons_zero, List.set_cons_succ])
  refine wpAnyL_one (i := 17) rfl (by kernel_rfl) (by rfl) ?_
  go_simp
  rw [← hW, ← hva]
  clear hW hva
  refine And.intro HSW.out ?_
  (try simp only [Act.put, List.setIfInBounds_toArray, List.set_cons_zero, List.set_cons_succ])
  refine wpAnyL_late (i := 18) rfl (by kernel_rfl) (by rfl) (by kernel_rfl) ?_
  go_simp
  go_at_call 153
  (with_reducible refine HSET.out.mono ?_)
  rintro e' w' ⟨rfl, l', HL⟩
  have HFIN : Hid (OutS w' base ⟨kA, kn, kc, ks, gA, gn, gc, gens, some ⟨ib, io, none⟩, im, ic, its.set k { x with cms := l' }⟩ ∧ (its.set k { x with cms := l' }).map It.p = (its.map It.p).set k (updI m (fitF d.1 d.2 [p0, p1, p2]).1 x.p) ∧ Kx 0 [166] w0 w' ∧ Below base w0 w') := Lib.hid (by
    obtain ⟨h1, h2, h3, h4⟩ := HOW.out.set_ HXX.out.1 HXX.out.2 HL.out.1 HL.out.2
    exact ⟨h1, h2, HBW.out.1.trans h3, HBW.out.2.trans (h4.mono (Nat.le_refl _))⟩)
  clear HL HOW HBW HXX HSET HSS HSW
  (try simp only)
  refine wpAnyL_done (by kernel_rfl) ?_ _
  (try refine NoPanic.normal ?_)
  first
    | exact HFIN
    | exact hN _ _ _ _ _ _ _ _ _ _ _ _ _ _ _ _ _ _ _ l' w' HFIN
noncomputable def bw21 : Code := (Try.f66.body.bind (rgnN 21)).getD .skip
set_option maxHeartbeats 8000000 in
theorem bw21_any {x0 x1 x2 x3 x4 x5 x6 x7 x8 x9 x11 x13 x14 x18 x19 x20 x21 x22 x23 x24 x25 x26 x27 x28 x29 x30 x31 x32 x33 x34 x35 x36 x37 x38 x39 x40 x41 x42 x43 x44 x45 x46 x47 x48 x49 x50 x51 x52 x53 x54 x55 x56 x57 x58 x59 x60 x61 x62 x63 x64 x65 x66 x67 x68 x69 x70 x71 x72 x73 x74 x75 x76 x77 x78 x79 x80 x81 x82 x83 x84 x85 x86 x87 x88 x89 x90 x91 x92 x93 x94 x95 x96 x97 x98 x99 x100 x101 x102 x103 x104 x105 x106 x107 x108 x109 x110 x111 x112 x113 x114 x115 x116 x117 x118 x119 x120 x121 x122 x123 x124 x125 x126 x127 x128 x129 x130 x131 x132 x133 x134 x135 x136 x137 x138 x139 x140 x141 x142 x143 x144 x145 x146 x147 x148 x149 x150 x151 x152 x153 x154 x155 x156 x157 x158 x159 x160 x161 x162 x163 x164 x165 x166 x167 x168 x169 x170 x171 x172 x173 : Value} {Q : Exit → Act → World → Prop} {w0 : World} {base mA oA ba k n g ib io im ic kn kc gn gc : Nat} {kA gA : Option Addr} {ks : List Kd} {d : ByteArray × List Fd} {gens : List Int} {its : List It} {x : It} {e q m p0 p1 p2 p3 : Int}
    (hO : OutS w0 base ⟨kA, kn, kc, ks, gA, gn, gc, gens, some ⟨ib, io, none⟩, im, ic, its⟩) (hx : its[k]? = some x) (hA : x.A = some ⟨g, 0, none⟩) (hn : x.n = n) (_he : x.e = e) (_hq : x.g = q) (hn2 : n ≤ 1000) (hd : 0 ≤ m → ∃ (K : Nat) (z : Kd), m = K ∧ ks[K]? = some z ∧ z.p = d) (hnn : ∀ c ∈ x.cms, 0 ≤ c.k)
    (hS : w0.cell? ⟨oA, 0, none⟩ = some (.slice kA kn kc) ∧ w0.cell? ⟨oA, 2, none⟩ = some (.slice (some ⟨ib, io, none⟩) im ic) ∧ w0.cell? ⟨ib, io + k * 3, none⟩ = some (.int .i64 e) ∧ w0.cell? ⟨ib, io + k * 3 + 1, none⟩ = some (.int .i64 q) ∧ w0.cell? ⟨ib, io + k * 3 + 2, none⟩ = some (.slice (some ⟨g, 0, none⟩) n n) ∧ w0.cell? ⟨mA, 1, none⟩ = some (.int .i64 m) ∧ w0.cell? ⟨ba, 2, none⟩ = some (.int .i64 p0) ∧ w0.cell? ⟨ba, 3, none⟩ = some (.int .i64 p1) ∧ w0.cell? ⟨ba, 5, none⟩ = some (.int .i64 p2))
    (hbase : base ≤ w0.heap.size)
    (hN : ∀ (y102 y103 y104 y105 y106 y107 y108 y109 y110 y111 y112 y113 y114 y115 y116 y117 y118 y119 y120 y121 : Value) (l' : List Cm) (w' : World), Hid (OutS w' base ⟨kA, kn, kc, ks, gA, gn, gc, gens, some ⟨ib, io, none⟩, im, ic, its.set k { x with cms := l' }⟩ ∧ (its.set k { x with cms := l' }).map It.p = (its.map It.p).set k (updI m (fitF d.1 d.2 [p0, p1, p2, p3]).1 x.p) ∧ Kx 0 [166] w0 w' ∧ Below base w0 w') → Q .normal ⟨#[x0, x1, x2, x3, x4, x5, x6, x7, x8, x9, .pointer (some ⟨mA, 0, none⟩), x11, .pointer (some ⟨oA, 0, none⟩), x13, x14, .int .i64 (k : Int), .pointer (some ⟨ba, 0, none⟩), .int .i64 p3, x18, x19, x20, x21, x22, x23, x24, x25, x26, x27, x28, x29, x30, x31, x32, x33, x34, x35, x36, x37, x38, x39, x40, x41, x42, x43, x44, x45, x46, x47, x48, x49, x50, x51, x52, x53, x54, x55, x56, x57, x58, x59, x60, x61, x62, x63, x64, x65, x66, x67, x68, x69, x70, x71, x72, x73, x74, x75, x76, x77, x78, x79, x80, x81, x82, x83, x84, x85, x86, x87, x88, x89, x90, x91, x92, x93, x94, x95, x96, x97, x98, x99, x100, x101, y102, y103, y104, y105, y106, y107, y108, y109, y110, y111, y112, y113, y114, y115, y116, y117, y118, y119, y120, y121, x122, x123, x124, x125, x126, x127, x128, x129, x130, x131, x132, x133, x134, x135, x136, x137, x138, x139, x140, x141, x142, x143, x144, x145, x146, x147, x148, x149, x150, x151, x152, x153, x154, x155, x156, x157, x158, x159, x160, x161, x162, x163, x164, x165, x166, x167, x168, x169, x170, x171, x172, x173], []⟩ w') :
    Code.wp Try.prog bw21 Q ⟨#[x0, x1, x2, x3, x4, x5, x6, x7, x8, x9, .pointer (some ⟨mA, 0, none⟩), x11, .pointer (some ⟨oA, 0, none⟩), x13, x14, .int .i64 (k : Int), .pointer (some ⟨ba, 0, none⟩), .int .i64 p3, x18, x19, x20, x21, x22, x23, x24, x25, x26, x27, x28, x29, x30, x31, x32, x33, x34, x35, x36, x37, x38, x39, x40, x41, x42, x43, x44, x45, x46, x47, x48, x49, x50, x51, x52, x53, x54, x55, x56, x57, x58, x59, x60, x61, x62, x63, x64, x65, x66, x67, x68, x69, x70, x71, x72, x73, x74, x75, x76, x77, x78, x79, x80, x81, x82, x83, x84, x85, x86, x87, x88, x89, x90, x91, x92, x93, x94, x95, x96, x97, x98, x99, x100, x101, x102, x103, x104, x105, x106, x107, x108, x109, x110, x111, x112, x113, x114, x115, x116, x117, x118, x119, x120, x121, x122, x123, x124, x125, x126, x127, x128, x129, x130, x131, x132, x133, x134, x135, x136, x137, x138, x139, x140, x141, x142, x143, x144, x145, x146, x147, x148, x149, x150, x151, x152, x153, x154, x155, x156, x157, x158, x159, x160, x161, x162, x163, x164, x165, x166, x167, x168, x169, x170, x171, x172, x173], []⟩ w0 := by
  conv => arg 2; whnf
  have hkim : k < im := by have h1 := (List.getElem?_eq_some_iff.1 hx).1; have h2 := hO.wd.its.len; dsimp only at h2; omega
  have hkz : (k : Int) < im := by omega
  have hkz0 : (0 : Int) ≤ k := by omega
  have hIC : im ≤ ic := hO.wd.its.cap
  have hIC2 : ic ≤ 9223372036854775807 := hO.wd.its.cap2
  obtain ⟨u0, hu0⟩ : ∃ z, z = w0.drew := ⟨_, rfl⟩
  have hb0 : Below w0.heap.size w0 u0 := by rw [hu0]; exact (Below.refl _ _).drew
  obtain ⟨W, hW⟩ : ∃ z, z = (u0.alloc (.cells #[.int .i64 p0, .int .i64 p1, .int .i64 p2, .int .i64 p3] 3)) := ⟨_, rfl⟩
  obtain ⟨va, hva⟩ : ∃ z, z = u0.heap.size := ⟨_, rfl⟩
  have hbW : Below w0.heap.size w0 W := by rw [hW]; exact hb0.alloc hb0.size _
  have HOW : Hid (OutS W base ⟨kA, kn, kc, ks, gA, gn, gc, gens, some ⟨ib, io, none⟩, im, ic, its⟩) := Lib.hid (hO.keep (F := []) (Kx.of_below hbW) (by simp) (by simp) (by simp) (by simp) (by simp))
  have HBW : Hid (Kx 0 [166] w0 W ∧ Below base w0 W) := Lib.hid ⟨Kx.of_below hbW, hbW.mono hbase⟩
  have HXX : Hid (its[k]? = some x ∧ x.A = some ⟨g, 0, none⟩) := Lib.hid ⟨hx, hA⟩
  have HSET : Hid (Calls Try.prog 153 #[.slice kA kn kc, .agg #[.int .i64 e, .int .i64 q, .slice (some ⟨g, 0, none⟩) n n], .int .i64 m, .slice (some ⟨va, 0, none⟩) 4 4] W fun en w' => en = .returned (.tuple #[]) ∧ ∃ l', Hid (SeI w' g m (fitF d.1 d.2 [p0, p1, p2, p3]).1 x.cms l' x.cms.length ∧ Fq [g] W w')) := Lib.hid (by
    have hmem := List.mem_of_getElem? hx
    obtain ⟨g0, f1, f2, f3, f4⟩ := HOW.out.sp.row x hmem
    obtain rfl : g0 = g := by rw [hA] at f1; injection f1 with f1; injection f1 with f1; exact f1.symm
    have hcs := (HOW.out.wd.its.ok x hmem).cs
    have hbk : Bk W va 3 #[.int .i64 p0, .int .i64 p1, .int .i64 p2, .int .i64 p3] := by rw [hW, hva]; exact Bk.new _ _ _
    exact set_any (vs := [p0, p1, p2, p3]) HOW.out.wd.ks (by rw [← hn]; exact hcs.len) hn2 f4 hcs.ok (RdY.of_bk hbk rfl fun j u hu => by simpa using hu) rfl (Nat.le_refl _) (by decide) fun c hc hk => (by
      obtain ⟨K, z, e1, e2, e3⟩ := hd (by rw [← hk]; exact hnn c hc)
      exact ⟨K, z, e1, e2, by rw [← e3]; rfl⟩))
  have HSS : Hid (u0.cell? ⟨oA, 0, none⟩ = some (.slice kA kn kc) ∧ u0.cell? ⟨oA, 2, none⟩ = some (.slice (some ⟨ib, io, none⟩) im ic) ∧ u0.cell? ⟨ib, io + k * 3, none⟩ = some (.int .i64 e) ∧ u0.cell? ⟨ib, io + k * 3 + 1, none⟩ = some (.int .i64 q) ∧ u0.cell? ⟨ib, io + k * 3 + 2, none⟩ = some (.slice (some ⟨g, 0, none⟩) n n) ∧ u0.cell? ⟨mA, 1, none⟩ = some (.int .i64 m) ∧ u0.cell? ⟨ba, 2, none⟩ = some (.int .i64 p0) ∧ u0.cell? ⟨ba, 3, none⟩ = some (.int .i64 p1) ∧ u0.cell? ⟨ba, 5, none⟩ = some (.int .i64 p2)) := Lib.hid (by rw [hu0]; exact hS)
  have HSW : Hid (W.cell? ⟨oA, 0, none⟩ = some (.slice kA kn kc) ∧ W.cell? ⟨oA, 2, none⟩ = some (.slice (some ⟨ib, io, none⟩) im ic) ∧ W.cell? ⟨ib, io + k * 3, none⟩ = some (.int .i64 e) ∧ W.cell? ⟨ib, io + k * 3 + 1, none⟩ = some (.int .i64 q) ∧ W.cell? ⟨ib, io + k * 3 + 2, none⟩ = some (.slice (some ⟨g, 0, none⟩) n n) ∧ W.cell? ⟨mA, 1, none⟩ = some (.int .i64 m) ∧ W.cell? ⟨ba, 2, none⟩ = some (.int .i64 p0) ∧ W.cell? ⟨ba, 3, none⟩ = some (.int .i64 p1) ∧ W.cell? ⟨ba, 5, none⟩ = some (.int .i64 p2)) := Lib.hid (by
    have hw : ∀ p u, u0.cell? p = some u → W.cell? p = some u := fun p u h => by rw [hW]; exact (((Below.refl u0.heap.size u0).alloc (Nat.le_refl _) _).cell (World.block_lt_of_cell? _ _ h)).trans h
    obtain ⟨h0, h1, h2, h3, h4, h5, h6, h7, h8⟩ := HSS.out
    exact ⟨hw _ _ h0, hw _ _ h1, hw _ _ h2, hw _ _ h3, hw _ _ h4, hw _ _ h5, hw _ _ h6, hw _ _ h7, hw _ _ h8⟩)
  clear hO hx hA hn _he _hq hd hnn hS hb0 hbW hbase
  refine wp_region_noPanic ?_
  refine wp_region_L (S := fun wz => wz.cell? ⟨oA, 0, none⟩ = some (.slice kA kn kc) ∧ wz.cell? ⟨oA, 2, none⟩ = some (.slice (some ⟨ib, io, none⟩) im ic) ∧ wz.cell? ⟨ib, io + k * 3, none⟩ = some (.int .i64 e) ∧ wz.cell? ⟨ib, io + k * 3 + 1, none⟩ = some (.int .i64 q) ∧ wz.cell? ⟨ib, io + k * 3 + 2, none⟩ = some (.slice (some ⟨g, 0, none⟩) n n) ∧ wz.cell? ⟨mA, 1, none⟩ = some (.int .i64 m) ∧ wz.cell? ⟨ba, 2, none⟩ = some (.int .i64 p0) ∧ wz.cell? ⟨ba, 3, none⟩ = some (.int .i64 p1) ∧ wz.cell? ⟨ba, 5, none⟩ = some (.int .i64 p2)) (late := [19]) (by kernel_rfl) ?_
  rw [← hu0]
  clear hu0
  refine wpAnyL_val (i := 0) (v := .pointer (some ⟨oA, 0, none⟩)) (d := some 102) rfl rfl (by kernel_rfl) (by kernel_rfl) (by kernel_rfl) (by kernel_rfl) (fun _ _ _ h => h) (Or.inl ⟨by rfl, fun w hS => by (obtain ⟨h0, h1, h2, h3, h4, h5, h6, h7, h8⟩ := hS; go_simp)⟩) HSS.out ?_
  (try simp only [Act.put, List.setIfInBounds_toArray, List.set_cons_zero, List.set_cons_succ])
  refine wpAnyL_val (i := 1) (v := .slice kA kn kc) (d := some 103) rfl rfl (by kernel_rfl) (by kernel_rfl) (by kernel_rfl) (by kernel_rfl) (fun _ _ _ h => h) (Or.inl ⟨by rfl, fun w hS => by (obtain ⟨h0, h1, h2, h3, h4, h5, h6, h7, h8⟩ := hS; go_simp)⟩) HSS.out ?_
  (try simp only [Act.put, List.setIfInBounds_toArray, List.set_cons_zero, List.set_cons_succ])
  refine wpAnyL_val (i := 2) (v := .pointer (some ⟨oA, 2, none⟩)) (d := some 104) rfl rfl (by kernel_rfl) (by kernel_rfl) (by kernel_rfl) (by kernel_rfl) (fun _ _ _ h => h) (Or.inl ⟨by rfl, fun w hS => by (obtain ⟨h0, h1, h2, h3, h4, h5, h6, h7, h8⟩ := hS; go_simp)⟩) HSS.out ?_
  (try simp only [Act.put, List.setIfInBounds_toArray, List.set_cons_zero, List.set_cons_succ])
  refine wpAnyL_val (i := 3) (v := .slice (some ⟨ib, io, none⟩) im ic) (d := some 105) rfl rfl (by kernel_rfl) (by kernel_rfl) (by kernel_rfl) (by kernel_rfl) (fun _ _ _ h => h) (Or.inl ⟨by rfl, fun w hS => by (obtain ⟨h0, h1, h2, h3, h4, h5, h6, h7, h8⟩ := hS; go_simp)⟩) HSS.out ?_
  (try simp only [Act.put, List.setIfInBounds_toArray, List.set_cons_zero, List.set_cons_succ])
  refine wpAnyL_val (i := 4) (v := .int .i64 (k : Int)) (d := some 106) rfl rfl (by kernel_rfl) (by kernel_rfl) (by kernel_rfl) (by kernel_rfl) (fun _ _ _ h => h) (Or.inl ⟨by rfl, fun w hS => by (obtain ⟨h0, h1, h2, h3, h4, h5, h6, h7, h8⟩ := hS; go_simp)⟩) HSS.out ?_
  (try simp only [Act.put, List.setIfInBounds_toArray, List.set_cons_zero, List.set_cons_succ])
  refine wpAnyL_val (i := 5) (v := .pointer (some ⟨ib, io + k * 3, none⟩)) (d := some 107) rfl rfl (by kernel_rfl) (by kernel_rfl) (by kernel_rfl) (by kernel_rfl) (fun _ _ _ h => h) (Or.inl ⟨by rfl, fun w hS => by (obtain ⟨h0, h1, h2, h3, h4, h5, h6, h7, h8⟩ := hS; go_simp)⟩) HSS.out ?_
  (try simp only [Act.put, List.setIfInBounds_toArray, List.set_cons_zero, List.set_cons_succ])
  refine wpAnyL_val (i := 6) (v := .agg #[.int .i64 e, .int .i64 q, .slice (some ⟨g, 0, none⟩) n n]) (d := some 108) rfl rfl (by kernel_rfl) (by kernel_rfl) (by kernel_rfl) (by kernel_rfl) (fun _ _ _ h => h) (Or.inl ⟨by rfl, fun w hS => by (obtain ⟨h0, h1, h2, h3, h4, h5, h6, h7, h8⟩ := hS; go_simp)⟩) HSS.out ?_
  (try simp only [Act.put, List.setIfInBounds_toArray, List.set_cons_zero, List.set_cons_succ])
  refine wpAnyL_val (i := 7) (v := .pointer (some ⟨mA, 1, none⟩)) (d := some 109) rfl rfl (by kernel_rfl) (by kernel_rfl) (by kernel_rfl) (by kernel_rfl) (fun _ _ _ h => h) (Or.inl ⟨by rfl, fun w hS => by (obtain ⟨h0, h1, h2, h3, h4, h5, h6, h7, h8⟩ := hS; go_simp)⟩) HSS.out ?_
  (try simp only [Act.put, List.setIfInBounds_toArray, List.set_cons_zero, List.set_cons_succ])
  refine wpAnyL_val (i := 8) (v := .int .i64 m) (d := some 110) rfl rfl (by kernel_rfl) (by kernel_rfl) (by kernel_rfl) (by kernel_rfl) (fun _ _ _ h => h) (Or.inl ⟨by rfl, fun w hS => by (obtain ⟨h0, h1, h2, h3, h4, h5, h6, h7, h8⟩ := hS; go_simp)⟩) HSS.out ?_
  (try simp only [Act.put, List.setIfInBounds_toArray, List.set_cons_zero, List.set_cons_succ])
  refine wpAnyL_val (i := 9) (v := .pointer (some ⟨ba, 2, none⟩)) (d := some 111) rfl rfl (by kernel_rfl) (by kernel_rfl) (by kernel_rfl) (by kernel_rfl) (fun _ _ _ h => h) (Or.inl ⟨by rfl, fun w hS => by (obtain ⟨h0, h1, h2, h3, h4, h5, h6, h7, h8⟩ := hS; go_simp)⟩) HSS.out ?_
  (try simp only [Act.put, List.setIfInBounds_toArray, List.set_cons_zero, List.set_cons_succ])
  refine wpAnyL_val (i := 10) (v := .pointer (some ⟨ba, 2, none⟩)) (d := some 112) rfl rfl (by kernel_rfl) (by kernel_rfl) (by kernel_rfl) (by kernel_rfl) (fun _ _ _ h => h) (Or.inl ⟨by rfl, fun w hS => by (obtain ⟨h0, h1, h2, h3, h4, h5, h6, h7, h8⟩ := hS; go_simp)⟩) HSS.out ?_
  (try simp only [Act.put, List.setIfInBounds_toArray, List.set_cons_zero, List.set_cons_succ])
  refine wpAnyL_val (i := 11) (v := .int .i64 p0) (d := some 113) rfl rfl (by kernel_rfl) (by kernel_rfl) (by kernel_rfl) (by kernel_rfl) (fun _ _ _ h => h) (Or.inl ⟨by rfl, fun w hS => by (obtain ⟨h0, h1, h2, h3, h4, h5, h6, h7, h8⟩ := hS; go_simp)⟩) HSS.out ?_
  (try simp only [Act.put, List.setIfInBounds_toArray, List.set_cons_zero, List.set_cons_succ])
  refine wpAnyL_val (i := 12) (v := .pointer (some ⟨ba, 2, none⟩)) (d := some 114) rfl rfl (by kernel_rfl) (by kernel_rfl) (by kernel_rfl) (by kernel_rfl) (fun _ _ _ h => h) (Or.inl ⟨by rfl, fun w hS => by (obtain ⟨h0, h1, h2, h3, h4, h5, h6, h7, h8⟩ := hS; go_simp)⟩) HSS.out ?_
  (try simp only [Act.put, List.setIfInBounds_toArray, List.set_cons_zero, List.set_cons_succ])
  refine wpAnyL_val (i := 13) (v := .pointer (some ⟨ba, 3, none⟩)) (d := some 115) rfl rfl (by kernel_rfl) (by kernel_rfl) (by kernel_rfl) (by kernel_rfl) (fun _ _ _ h => h) (Or.inl ⟨by rfl, fun w hS => by (obtain ⟨h0, h1, h2, h3, h4, h5, h6, h7, h8⟩ := hS; go_simp)⟩) HSS.out ?_
  (try simp only [Act.put, List.setIfInBounds_toArray, List.set_cons_zero, List.set_cons_succ])
  refine wpAnyL_val (i := 14) (v := .int .i64 p1) (d := some 116) rfl rfl (by kernel_rfl) (by kernel_rfl) (by kernel_rfl) (by kernel_rfl) (fun _ _ _ h => h) (Or.inl ⟨by rfl, fun w hS => by (obtain ⟨h0, h1, h2, h3, h4, h5, h6, h7, h8⟩ := hS; go_simp)⟩) HSS.out ?_
  (try simp only [Act.put, List.setIfInBounds_toArray, List.set_cons_zero, List.set_cons_succ])
  refine wpAnyL_val (i := 15) (v := .pointer (some ⟨ba, 5, none⟩)) (d := some 117) rfl rfl (by kernel_rfl) (by kernel_rfl) (by kernel_rfl) (by kernel_rfl) (fun _ _ _ h => h) (Or.inl ⟨by rfl, fun w hS => by (obtain ⟨h0, h1, h2, h3, h4, h5, h6, h7, h8⟩ := hS; go_simp)⟩) HSS.out ?_
  (try simp only [Act.put, List.setIfInBounds_toArray, List.set_cons_zero, List.set_cons_succ])
  refine wpAnyL_val (i := 16) (v := .int .i64 p2) (d := some 118) rfl rfl (by kernel_rfl) (by kernel_rfl) (by kernel_rfl) (by kernel_rfl) (fun _ _ _ h => h) (Or.inl ⟨by rfl, fun w hS => by (obtain ⟨h0, h1, h2, h3, h4, h5, h6, h7, h8⟩ := hS; go_simp)⟩) HSS.out ?_
  (try simp only [Act.put, List.setIfInBounds_toArray, List.set_cons_zero, List.set_cons_succ])
  refine wpAnyL_val (i := 17) (v := .int .i64 p3) (d := some 119) rfl rfl (by kernel_rfl) (by kernel_rfl) (by kernel_rfl) (by kernel_rfl) (fun _ _ _ h => h) (Or.inl ⟨by rfl, fun w hS => by (obtain ⟨h0, h1, h2, h3, h4, h5, h6, h7, h8⟩ := hS; go_simp)⟩) HSS.out ?_
  (try simp only [Act.put, List.setIfInBounds_toArray, List.set_cons_zero, List.set_cons_succ])
  refine wpAnyL_one (i := 18) rfl (by kernel_rfl) (by rfl) ?_
  go_simp
  rw [← hW, ← hva]
  clear hW hva
  refine And.intro HSW.out ?_
  (try simp only [Act.put, List.setIfInBounds_toArray, List.set_cons_zero, List.set_cons_succ])
  refine wpAnyL_late (i := 19) rfl (by kernel_rfl) (by rfl) (by kernel_rfl) ?_
  go_simp
  go_at_call 153
  (with_reducible refine HSET.out.mono ?_)
  rintro e' w' ⟨rfl, l', HL⟩
  have HFIN : Hid (OutS w' base ⟨kA, kn, kc, ks, gA, gn, gc, gens, some ⟨ib, io, none⟩, im, ic, its.set k { x with cms := l' }⟩ ∧ (its.set k { x with cms := l' }).map It.p = (its.map It.p).set k (updI m (fitF d.1 d.2 [p0, p1, p2, p3]).1 x.p) ∧ Kx 0 [166] w0 w' ∧ Below base w0 w') := Lib.hid (by
    obtain ⟨h1, h2, h3, h4⟩ := HOW.out.set_ HXX.out.1 HXX.out.2 HL.out.1 HL.out.2
    exact ⟨h1, h2, HBW.out.1.trans h3, HBW.out.2.trans (h4.mono (Nat.le_refl _))⟩)
  clear HL HOW HBW HXX HSET HSS HSW
  (try simp only)
  refine wpAnyL_done (by kernel_rfl) ?_ _
  (try refine NoPanic.normal ?_)
  first
    | exact HFIN
    | exact hN _ _ _ _ _ _ _ _ _ _ _ _ _ _ _ _ _ _ _ _ l' w' HFIN
end Go.Proofs.Ytnidcmhfbkdioaa
