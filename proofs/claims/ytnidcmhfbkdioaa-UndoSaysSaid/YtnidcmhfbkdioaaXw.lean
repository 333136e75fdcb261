/-
  The arm of Do in the law UndoSays. Conditions: fewer than 120 rounds.
-/
import Derived.Test.YtnidcmhfbkdioaaXy
import Derived.Test.YtnidcmhfbkdioaaNh
namespace Go.Proofs.Ytnidcmhfbkdioaa
open Go.RowKit
set_option maxRecDepth 100000

set_option maxHeartbeats 8000000 in
theorem usDo_any {x0 x2 x3 x4 x5 x7 x14 x15 x16 x17 x18 x19 x20 x21 x22 x23 x24 x25 x26 x27 x28 x29 x30 x31 x32 x33 x34 x35 x36 x37 x38 x39 x40 x41 x42 x43 x44 x45 x46 x47 x48 x49 x50 x51 x52 x53 x54 x55 x56 x57 x58 x59 x60 x61 x62 x63 x64 x65 x66 x67 x68 x69 x70 x71 x72 x73 x74 x75 x76 x77 x78 x79 x80 x81 x82 x83 x84 x85 x86 x87 x88 x89 x90 x91 x92 x93 x94 x95 x96 x97 x98 x99 x100 x101 x102 x103 x104 x105 x106 x107 x108 x109 x110 x111 x112 x113 x114 x115 x116 x117 x118 x119 x120 x121 x122 x123 x124 x125 x126 x127 x128 x129 x130 x131 x132 x133 x134 x135 x136 x137 x138 x139 x140 x141 x142 x143 x144 x145 x146 x147 x148 x149 x150 x151 x152 x153 x154 x155 x156 x157 x158 x159 x160 x161 x162 x163 x164 x165 x166 x167 x168 x169 x170 x171 x172 x173 x174 x175 x176 x177 x178 x179 x180 x181 x182 x183 x184 x185 x186 x187 x188 x189 x190 x191 x192 x193 x194 x195 x196 x197 x198 x199 x200 x201 x202 x203 x204 x205 x206 x207 x208 x209 x210 x211 x212 x213 x214 x215 x216 x217 x218 x219 x220 x221 x222 x223 x224 x225 x226 x227 x228 x229 x230 x231 x232 x233 x234 x235 x236 x237 x238 x239 x240 x241 x242 x243 x244 x245 x246 x247 x248 x249 x250 x251 x252 x253 x254 x255 x256 x257 x258 x259 x260 x261 : Value} {Q : Exit → Act → World → Prop} {w0 wr : World} {hb : Nat} {AA NA XA : Option Addr} {L ac nc pa xn xc i : Nat} {z : Int} {nm : ByteArray} {K0 : List Kp2} {B : Nat} {acts : List Int} (HI : Hid (USe w0 wr hb AA NA L ac nc pa K0 i)) (HK : Hid (KOk K0)) (hi : i < 120) (HX : Hid (Rd w0 B 1 XA xn (acts.map (Value.int .i64)) ∧ xn = acts.length ∧ xn ≤ xc ∧ xc ≤ 9223372036854775807 ∧ (∀ z ∈ acts, (Lit.int .i64 z).wf = true) ∧ B ≤ w0.heap.size)) (hix : i < xn)
    (hN : ∀ (y20 y21 y58 y59 y60 y61 y62 y63 y64 y65 y66 y67 y68 y69 y70 y71 y72 y73 y74 y75 y76 y77 y78 y79 y80 y81 y82 y83 y84 y85 y86 y87 y88 y89 y90 y91 y92 y93 y94 y95 y96 y97 y98 y99 y100 y101 y102 y103 y104 y105 y106 y107 : Value) (AA' NA' : Option Addr) (L' ac' nc' pa' : Nat) (w' : World), Hid (USe w0 w' hb AA' NA' L' ac' nc' pa' K0 (i + 1)) → Q .normal ⟨#[x0, .slice XA xn xc, x2, x3, x4, x5, .pointer (some ⟨hb, 0, none⟩), x7, .slice AA' L' ac', .slice NA' L' nc', .int .i64 pa', .int .i64 i, .int .i64 z, .string nm, x14, x15, x16, x17, x18, x19, y20, y21, x22, x23, x24, x25, x26, x27, x28, x29, x30, x31, x32, x33, x34, x35, x36, x37, x38, x39, x40, x41, x42, x43, x44, x45, x46, x47, x48, x49, x50, x51, x52, x53, x54, x55, x56, x57, y58, y59, y60, y61, y62, y63, y64, y65, y66, y67, y68, y69, y70, y71, y72, y73, y74, y75, y76, y77, y78, y79, y80, y81, y82, y83, y84, y85, y86, y87, y88, y89, y90, y91, y92, y93, y94, y95, y96, y97, y98, y99, y100, y101, y102, y103, y104, y105, y106, y107, x108, x109, x110, x111, x112, x113, x114, x115, x116, x117, x118, x119, x120, x121, x122, x123, x124, x125, x126, x127, x128, x129, x130, x131, x132, x133, x134, x135, x136, x137, x138, x139, x140, x141, x142, x143, x144, x145, x146, x147, x148, x149, x150, x151, x152, x153, x154, x155, x156, x157, x158, x159, x160, x161, x162, x163, x164, x165, x166, x167, x168, x169, x170, x171, x172, x173, x174, x175, x176, x177, x178, x179, x180, x181, x182, x183, x184, x185, x186, x187, x188, x189, x190, x191, x192, x193, x194, x195, x196, x197, x198, x199, x200, x201, x202, x203, x204, x205, x206, x207, x208, x209, x210, x211, x212, x213, x214, x215, x216, x217, x218, x219, x220, x221, x222, x223, x224, x225, x226, x227, x228, x229, x230, x231, x232, x233, x234, x235, x236, x237, x238, x239, x240, x241, x242, x243, x244, x245, x246, x247, x248, x249, x250, x251, x252, x253, x254, x255, x256, x257, x258, x259, x260, x261], []⟩ w')
    (hE : ∀ (y20 y21 y58 y59 y60 y61 y62 y63 y64 y65 y66 y67 y68 y69 y70 y71 y72 y73 y74 y75 y76 y77 y78 y79 y80 y81 y82 y83 y84 y85 y86 y87 y88 y89 y90 y91 y92 y93 y94 y95 y96 y97 y98 y99 y100 y101 y102 y103 y104 y105 y106 y107 : Value) (w' : World), Hid (USe w0 w' hb AA NA L ac nc pa K0 (i + 1)) → Q (.exit 1) ⟨#[x0, .slice XA xn xc, x2, x3, x4, x5, .pointer (some ⟨hb, 0, none⟩), x7, .slice AA L ac, .slice NA L nc, .int .i64 pa, .int .i64 i, .int .i64 z, .string nm, x14, x15, x16, x17, x18, x19, y20, y21, x22, x23, x24, x25, x26, x27, x28, x29, x30, x31, x32, x33, x34, x35, x36, x37, x38, x39, x40, x41, x42, x43, x44, x45, x46, x47, x48, x49, x50, x51, x52, x53, x54, x55, x56, x57, y58, y59, y60, y61, y62, y63, y64, y65, y66, y67, y68, y69, y70, y71, y72, y73, y74, y75, y76, y77, y78, y79, y80, y81, y82, y83, y84, y85, y86, y87, y88, y89, y90, y91, y92, y93, y94, y95, y96, y97, y98, y99, y100, y101, y102, y103, y104, y105, y106, y107, x108, x109, x110, x111, x112, x113, x114, x115, x116, x117, x118, x119, x120, x121, x122, x123, x124, x125, x126, x127, x128, x129, x130, x131, x132, x133, x134, x135, x136, x137, x138, x139, x140, x141, x142, x143, x144, x145, x146, x147, x148, x149, x150, x151, x152, x153, x154, x155, x156, x157, x158, x159, x160, x161, x162, x163, x164, x165, x166, x167, x168, x169, x170, x171, x172, x173, x174, x175, x176, x177, x178, x179, x180, x181, x182, x183, x184, x185, x186, x187, x188, x189, x190, x191, x192, x193, x194, x195, x196, x197, x198, x199, x200, x201, x202, x203, x204, x205, x206, x207, x208, x209, x210, x211, x212, x213, x214, x215, x216, x217, x218, x219, x220, x221, x222, x223, x224, x225, x226, x227, x228, x229, x230, x231, x232, x233, x234, x235, x236, x237, x238, x239, x240, x241, x242, x243, x244, x245, x246, x247, x248, x249, x250, x251, x252, x253, x254, x255, x256, x257, x258, x259, x260, x261], []⟩ w')
    : Code.wp Try.prog usDo Q ⟨#[x0, .slice XA xn xc, x2, x3, x4, x5, .pointer (some ⟨hb, 0, none⟩), x7, .slice AA L ac, .slice NA L nc, .int .i64 pa, .int .i64 i, .int .i64 z, .string nm, x14, x15, x16, x17, x18, x19, x20, x21, x22, x23, x24, x25, x26, x27, x28, x29, x30, x31, x32, x33, x34, x35, x36, x37, x38, x39, x40, x41, x42, x43, x44, x45, x46, x47, x48, x49, x50, x51, x52, x53, x54, x55, x56, x57, x58, x59, x60, x61, x62, x63, x64, x65, x66, x67, x68, x69, x70, x71, x72, x73, x74, x75, x76, x77, x78, x79, x80, x81, x82, x83, x84, x85, x86, x87, x88, x89, x90, x91, x92, x93, x94, x95, x96, x97, x98, x99, x100, x101, x102, x103, x104, x105, x106, x107, x108, x109, x110, x111, x112, x113, x114, x115, x116, x117, x118, x119, x120, x121, x122, x123, x124, x125, x126, x127, x128, x129, x130, x131, x132, x133, x134, x135, x136, x137, x138, x139, x140, x141, x142, x143, x144, x145, x146, x147, x148, x149, x150, x151, x152, x153, x154, x155, x156, x157, x158, x159, x160, x161, x162, x163, x164, x165, x166, x167, x168, x169, x170, x171, x172, x173, x174, x175, x176, x177, x178, x179, x180, x181, x182, x183, x184, x185, x186, x187, x188, x189, x190, x191, x192, x193, x194, x195, x196, x197, x198, x199, x200, x201, x202, x203, x204, x205, x206, x207, x208, x209, x210, x211, x212, x213, x214, x215, x216, x217, x218, x219, x220, x221, x222, x223, x224, x225, x226, x227, x228, x229, x230, x231, x232, x233, x234, x235, x236, x237, x238, x239, x240, x241, x242, x243, x244, x245, x246, x247, x248, x249, x250, x251, x252, x253, x254, x255, x256, x257, x258, x259, x260, x261], []⟩ wr := by
  conv => arg 2; whnf
  obtain ⟨Ws, Ns, now, dA, gA, dc, gn, gc, D, G, hU⟩ := HI.out
  obtain ⟨wo, rfl⟩ : ∃ q, q = wr := ⟨_, rfl⟩
  have HU := Lib.hid hU
  have hwo : w0.heap.size ≤ wo.heap.size := hU.bel.size
  obtain ⟨zb, hzb, hzbm, hqb⟩ := hU.qf_ 0
  rw [Nat.sub_zero] at hzb
  rw [hU.qf0] at hqb
  obtain ⟨b, o, rfl, hbb, q0, q1, q2⟩ := hU.world hzb
  have hl := hU.ul.y zb hzbm
  obtain ⟨bX, oX, rfl, hbX, hcX⟩ := HX.out.1.2 (by omega)
  have hxc : xn ≤ xc := HX.out.2.2.1
  have hxm : xc ≤ 9223372036854775807 := HX.out.2.2.2.1
  have hB0 : B ≤ w0.heap.size := HX.out.2.2.2.2.2
  have HCH : Hid (∀ wz, Below wo.heap.size wo wz → ∀ (A2 : Option Addr) (c2 : Nat), Rd wz B 1 A2 (xn - i) ((acts.drop i).map (Value.int .i64)) → xn - i ≤ c2 → c2 ≤ 9223372036854775807 → Calls Try.prog 30 #[.agg #[.slice zb.kA zb.kn zb.kc, .slice zb.gA zb.gn zb.gc, .slice zb.iA zb.im zb.ic], .slice A2 (xn - i) c2] wz fun e w' => ∃ y : Wd, e = .returned (.agg #[.slice y.kA y.kn y.kc, .slice y.gA y.gn y.gc, .slice y.iA y.im y.ic]) ∧ Hid (WdY w' 0 y ∧ VW holdK y.p ∧ y.p.ks = K0 ∧ y.p.gens.length ≤ 11 + (i + 1)) ∧ Below wz.heap.size wz w') := Lib.hid (fun wz hbz A2 c2 h1 h2 h3 => by
    refine (changed2_any zb A2 (xn - i) c2 B (acts.drop i) wz (hl.1.keep (Kx.of_below (B := 0) (F := []) hbz) (by simp) (by simp) (by simp) (by simp) (by simp)) hl.2.1 (by rw [hl.2.2.1]; exact HK.out.1) (by have := hl.2.2.2; show zb.p.gens.length < 256; omega) h1 (by rw [List.length_drop, HX.out.2.1]) h2 h3 (fun z hz => HX.out.2.2.2.2.1 z (List.mem_of_mem_drop hz)) (by have := hbz.size; omega)).mono ?_
    rintro e w' ⟨y, rfl, h4, h5⟩
    exact ⟨y, rfl, Lib.hid ⟨h4.out.1, h4.out.2.1, by rw [h4.out.2.2.2.1]; exact hl.2.2.1, by have := h4.out.2.2.2.2; have := hl.2.2.2; omega⟩, h5⟩)
  have HSF : Hid (∀ wz, Below wo.heap.size wo wz → Rd wz B 1 (some ⟨bX, oX + i, none⟩) (xn - i) ((acts.drop i).map (Value.int .i64))) := Lib.hid (fun wz hbz => by
    refine ⟨by have := HX.out.2.1; simp; omega, fun _ => ⟨bX, oX + i, rfl, hbX, fun j u hu => ?_⟩⟩
    refine (World.cell?_of_block (w := w0) ((hU.bel.trans (hbz.mono hwo)).block bX (by omega))).trans ?_
    rw [Nat.add_assoc]
    refine hcX (i + j) u ?_
    rw [List.map_drop, List.getElem?_drop] at hu
    exact hu)
  have hxz : ¬ (xc = i) := by omega
  have hlc : i ≤ xc := by omega
  have hin : i ≤ xn := by omega
  have hpL : (pa : Int) < L := by have := HU.out.len; omega
  have hp0 : (0 : Int) ≤ pa := by omega
  have HA := Lib.hid (And.intro hzb (And.intro hzbm hqb))
  have HLB := Lib.hid hbb
  clear hl hzb hzbm hqb hU hbX hcX
  go_wp2_with fail
  go_cut [20] from 58 to 65 (fun pv wx => ∃ (h12 : Nat) (y : Wd), pv = .pointer (some ⟨h12, 0, none⟩) ∧ Hid (Bk wx h12 52 #[.slice y.kA y.kn y.kc, .slice y.gA y.gn y.gc, .slice y.iA y.im y.ic] ∧ WdY wx 0 y ∧ VW holdK y.p ∧ y.p.ks = K0 ∧ y.p.gens.length ≤ 11 + (i + 1) ∧ wo.heap.size ≤ h12) ∧ Hid (Below wo.heap.size wo wx))
  case first =>
    have hs1 : ∀ wz, Below wo.heap.size wo wz → wz.cell? ⟨b, o + pa * 3, none⟩ = some (.slice zb.kA zb.kn zb.kc) ∧ wz.cell? ⟨b, o + pa * 3 + 1, none⟩ = some (.slice zb.gA zb.gn zb.gc) ∧ wz.cell? ⟨b, o + pa * 3 + 2, none⟩ = some (.slice zb.iA zb.im zb.ic) := fun wz hbz => ⟨(World.cell?_of_block (w := wo) (hbz.block b hbb)).trans q0, (World.cell?_of_block (w := wo) (hbz.block b hbb)).trans q1, (World.cell?_of_block (w := wo) (hbz.block b hbb)).trans q2⟩
    have s5 : wo.drew.cell? ⟨b, o + pa * 3, none⟩ = some (.slice zb.kA zb.kn zb.kc) ∧ wo.drew.cell? ⟨b, o + pa * 3 + 1, none⟩ = some (.slice zb.gA zb.gn zb.gc) ∧ wo.drew.cell? ⟨b, o + pa * 3 + 2, none⟩ = some (.slice zb.iA zb.im zb.ic) := ⟨q0, q1, q2⟩
    refine wp_region_noPanic ?_
    refine wp_region_E (S := fun wz => wz.cell? ⟨b, o + pa * 3, none⟩ = some (.slice zb.kA zb.kn zb.kc) ∧ wz.cell? ⟨b, o + pa * 3 + 1, none⟩ = some (.slice zb.gA zb.gn zb.gc) ∧ wz.cell? ⟨b, o + pa * 3 + 2, none⟩ = some (.slice zb.iA zb.im zb.ic)) (last := 9) (by kernel_rfl) ?_
    refine wpAnyE_val (i := 0) (v := .slice (some ⟨b, o, none⟩) L ac) (d := some 58) rfl rfl (by kernel_rfl) (by kernel_rfl) (by kernel_rfl) (by kernel_rfl) (fun _ _ _ h => h) (Or.inl ⟨by rfl, fun w hS => by (obtain ⟨h0, h1, h2⟩ := hS; go_simp)⟩) s5 ?_
    (try simp only [Act.put, List.setIfInBounds_toArray, List.set_cons_zero, List.set_cons_succ])
    refine wpAnyE_val (i := 1) (v := .int .i64 pa) (d := some 59) rfl rfl (by kernel_rfl) (by kernel_rfl) (by kernel_rfl) (by kernel_rfl) (fun _ _ _ h => h) (Or.inl ⟨by rfl, fun w hS => by (obtain ⟨h0, h1, h2⟩ := hS; go_simp)⟩) s5 ?_
    (try simp only [Act.put, List.setIfInBounds_toArray, List.set_cons_zero, List.set_cons_succ])
    refine wpAnyE_val (i := 2) (v := .pointer (some ⟨b, o + pa * 3, none⟩)) (d := some 60) rfl rfl (by kernel_rfl) (by kernel_rfl) (by kernel_rfl) (by kernel_rfl) (fun _ _ _ h => h) (Or.inl ⟨by rfl, fun w hS => by (obtain ⟨h0, h1, h2⟩ := hS; go_simp)⟩) s5 ?_
    (try simp only [Act.put, List.setIfInBounds_toArray, List.set_cons_zero, List.set_cons_succ])
    refine wpAnyE_val (i := 3) (v := .agg #[.slice zb.kA zb.kn zb.kc, .slice zb.gA zb.gn zb.gc, .slice zb.iA zb.im zb.ic]) (d := some 61) rfl rfl (by kernel_rfl) (by kernel_rfl) (by kernel_rfl) (by kernel_rfl) (fun _ _ _ h => h) (Or.inl ⟨by rfl, fun w hS => by (obtain ⟨h0, h1, h2⟩ := hS; go_simp)⟩) s5 ?_
    (try simp only [Act.put, List.setIfInBounds_toArray, List.set_cons_zero, List.set_cons_succ])
    refine wpAnyE_val (i := 4) (v := .slice (some ⟨bX, oX, none⟩) xn xc) (d := some 62) rfl rfl (by kernel_rfl) (by kernel_rfl) (by kernel_rfl) (by kernel_rfl) (fun _ _ _ h => h) (Or.inl ⟨by rfl, fun w hS => by (obtain ⟨h0, h1, h2⟩ := hS; go_simp)⟩) s5 ?_
    (try simp only [Act.put, List.setIfInBounds_toArray, List.set_cons_zero, List.set_cons_succ])
    refine wpAnyE_val (i := 5) (v := .int .i64 i) (d := some 63) rfl rfl (by kernel_rfl) (by kernel_rfl) (by kernel_rfl) (by kernel_rfl) (fun _ _ _ h => h) (Or.inl ⟨by rfl, fun w hS => by (obtain ⟨h0, h1, h2⟩ := hS; go_simp)⟩) s5 ?_
    (try simp only [Act.put, List.setIfInBounds_toArray, List.set_cons_zero, List.set_cons_succ])
    refine wpAnyE_val (i := 6) (v := .slice (some ⟨bX, oX + i, none⟩) (xn - i) (xc - i)) (d := some 64) rfl rfl (by kernel_rfl) (by kernel_rfl) (by kernel_rfl) (by kernel_rfl) (fun _ _ _ h => h) (Or.inl ⟨by rfl, fun w hS => by (obtain ⟨h0, h1, h2⟩ := hS; go_simp)⟩) s5 ?_
    (try simp only [Act.put, List.setIfInBounds_toArray, List.set_cons_zero, List.set_cons_succ])
    refine wpAnyE_twoV (i := 7) (j := 8) rfl rfl (by kernel_rfl) rfl rfl ?_ ?_
    · go_simp
      go_at_call 30
      (with_reducible refine (HCH.out _ ?hb _ _ ?r1 ?r2 ?r3).mono ?_)
      case hb => (repeat' first | exact Below.refl _ _ | refine Below.drew ?_)
      case r1 => exact HSF.out _ (by repeat' first | exact Below.refl _ _ | refine Below.drew ?_)
      case r2 => omega
      case r3 => omega
      rintro e w6 ⟨y, rfl, HY6, hb6⟩
      have hB6 : Below wo.heap.size wo w6 := Below.tr (by repeat' first | exact Below.refl _ _ | refine Below.drew ?_) hb6
      have hz6 : wo.heap.size ≤ w6.heap.size := hB6.size
      refine ⟨hs1 _ hB6, ?_⟩
      (try simp only [Act.put, List.setIfInBounds_toArray, List.set_cons_zero, List.set_cons_succ])
      obtain ⟨W7, hW7⟩ : ∃ W7, W7 = w6.alloc (.cells #[.slice none 0 0, .slice none 0 0, .slice none 0 0] 52) := ⟨_, rfl⟩
      have z7 : Bk W7 w6.heap.size 52 #[.slice none 0 0, .slice none 0 0, .slice none 0 0] := by rw [hW7]; exact Bk.new _ _ _
      have hB7 : Below wo.heap.size wo W7 := by rw [hW7]; exact hB6.alloc hB6.size _
      have HYW : Hid (WdY W7 0 y) := Lib.hid (by rw [hW7]; exact HY6.out.1.keep (F := []) ((Kx.refl (B := 0)).alloc _) (by simp) (by simp) (by simp) (by simp) (by simp))
      have HW7 := Lib.hid hW7
      clear hW7
      refine wpAnyE_one (i := 8) rfl (by kernel_rfl) rfl ?_
      go_simp
      rw [← HW7.out]
      first | refine And.intro (by first | exact hs1 _ hB7 | exact hs1 _ hB6) ?_ | skip
      (try simp only [Act.put, List.setIfInBounds_toArray, List.set_cons_zero, List.set_cons_succ])
      refine wpAnyE_one (i := 9) rfl (by kernel_rfl) rfl ?_
      have e0 : W7.cell? ⟨w6.heap.size, 0, none⟩ = some (.slice none 0 0) := z7.cell 0
      have f0 : W7.frozen? ⟨w6.heap.size, 0, none⟩ = false := z7.frozen 0
      have e1 : W7.cell? ⟨w6.heap.size, 1, none⟩ = some (.slice none 0 0) := z7.cell 1
      have f1 : W7.frozen? ⟨w6.heap.size, 1, none⟩ = false := z7.frozen 1
      have e2 : W7.cell? ⟨w6.heap.size, 2, none⟩ = some (.slice none 0 0) := z7.cell 2
      have f2 : W7.frozen? ⟨w6.heap.size, 2, none⟩ = false := z7.frozen 2
      have u0 := z7.set_ 0 (Value.slice y.kA y.kn y.kc)
      have u1 := u0.set_ 1 (Value.slice y.gA y.gn y.gc)
      have hK := ((Kx.refl (B := 0) (F := [52])).set z7 (Nat.zero_le _) (by simp) 0 (Value.slice y.kA y.kn y.kc)).set u0 (Nat.zero_le _) (by simp) 1 (Value.slice y.gA y.gn y.gc) |>.set u1 (Nat.zero_le _) (by simp) 2 (Value.slice y.iA y.im y.ic)
      have hBl := ((hB7.setCell (p := ⟨w6.heap.size, 0, none⟩) (by show wo.heap.size ≤ w6.heap.size; omega) (Value.slice y.kA y.kn y.kc)).setCell (p := ⟨w6.heap.size, 1, none⟩) (by show wo.heap.size ≤ w6.heap.size; omega) (Value.slice y.gA y.gn y.gc)).setCell (p := ⟨w6.heap.size, 2, none⟩) (by show wo.heap.size ≤ w6.heap.size; omega) (Value.slice y.iA y.im y.ic)
      have HFIN := Lib.hid (And.intro (u1.set_ 2 (Value.slice y.iA y.im y.ic)) (And.intro (HYW.out.keep hK (by decide) (by decide) (by decide) (by decide) (by decide)) hBl))
      clear u0 u1 hK hBl
      go_simp
      refine wpAnyE_done (by kernel_rfl) ?_ _
      refine NoPanic.normal ?_
      go_wp2_with fail
      go_meet
      case rel => first
        | exact ⟨w6.heap.size, y, rfl, Lib.hid ⟨HFIN.out.1, HFIN.out.2.1, HY6.out.2.1, HY6.out.2.2.1, HY6.out.2.2.2, by omega⟩, Lib.hid HFIN.out.2.2⟩
        | exact ⟨w6.heap.size, y, rfl, Lib.hid ⟨Bk.drew HFIN.out.1, HFIN.out.2.1.keep (F := []) (Kx.refl (B := 0)).drew (by simp) (by simp) (by simp) (by simp) (by simp), HY6.out.2.1, HY6.out.2.2.1, HY6.out.2.2.2, by omega⟩, Lib.hid HFIN.out.2.2.drew⟩
    · obtain ⟨W7, hW7⟩ : ∃ W7, W7 = wo.alloc (.cells #[.slice none 0 0, .slice none 0 0, .slice none 0 0] 52) := ⟨_, rfl⟩
      have z7 : Bk W7 wo.heap.size 52 #[.slice none 0 0, .slice none 0 0, .slice none 0 0] := by rw [hW7]; exact Bk.new _ _ _
      have hB7 : Below wo.heap.size wo W7 := by rw [hW7]; exact Below.al (Below.refl _ _) _
      have HW7 := Lib.hid hW7
      clear hW7
      go_simp
      rw [← HW7.out]
      first | refine And.intro (by first | exact hs1 _ hB7 | exact s5) ?_ | skip
      (try simp only [Act.put, List.setIfInBounds_toArray, List.set_cons_zero, List.set_cons_succ])
      refine wpAnyE_one (i := 7) rfl (by kernel_rfl) rfl ?_
      go_simp
      go_at_call 30
      (with_reducible refine (HCH.out _ ?hb _ _ ?r1 ?r2 ?r3).mono ?_)
      case hb => (repeat' first | exact hB7 | refine Below.drew ?_)
      case r1 => exact HSF.out _ (by repeat' first | exact hB7 | refine Below.drew ?_)
      case r2 => omega
      case r3 => omega
      rintro e w6 ⟨y, rfl, HY6, hb6⟩
      have hB6 : Below wo.heap.size wo w6 := Below.tr (by repeat' first | exact hB7 | refine Below.drew ?_) hb6
      have hz6 : wo.heap.size ≤ w6.heap.size := hB6.size
      have z6 : Bk w6 wo.heap.size 52 #[.slice none 0 0, .slice none 0 0, .slice none 0 0] := by first | exact Bk.below z7 hb6 z7.lt | exact Bk.below (Bk.drew z7) hb6 z7.lt
      have HYW : Hid (WdY w6 0 y) := Lib.hid HY6.out.1
      first | refine And.intro (hs1 _ hB6) ?_ | skip
      (try simp only [Act.put, List.setIfInBounds_toArray, List.set_cons_zero, List.set_cons_succ])
      refine wpAnyE_one (i := 9) rfl (by kernel_rfl) rfl ?_
      have e0 : w6.cell? ⟨wo.heap.size, 0, none⟩ = some (.slice none 0 0) := z6.cell 0
      have f0 : w6.frozen? ⟨wo.heap.size, 0, none⟩ = false := z6.frozen 0
      have e1 : w6.cell? ⟨wo.heap.size, 1, none⟩ = some (.slice none 0 0) := z6.cell 1
      have f1 : w6.frozen? ⟨wo.heap.size, 1, none⟩ = false := z6.frozen 1
      have e2 : w6.cell? ⟨wo.heap.size, 2, none⟩ = some (.slice none 0 0) := z6.cell 2
      have f2 : w6.frozen? ⟨wo.heap.size, 2, none⟩ = false := z6.frozen 2
      have u0 := z6.set_ 0 (Value.slice y.kA y.kn y.kc)
      have u1 := u0.set_ 1 (Value.slice y.gA y.gn y.gc)
      have hK := ((Kx.refl (B := 0) (F := [52])).set z6 (Nat.zero_le _) (by simp) 0 (Value.slice y.kA y.kn y.kc)).set u0 (Nat.zero_le _) (by simp) 1 (Value.slice y.gA y.gn y.gc) |>.set u1 (Nat.zero_le _) (by simp) 2 (Value.slice y.iA y.im y.ic)
      have hBl := ((hB6.setCell (p := ⟨wo.heap.size, 0, none⟩) (by show wo.heap.size ≤ wo.heap.size; omega) (Value.slice y.kA y.kn y.kc)).setCell (p := ⟨wo.heap.size, 1, none⟩) (by show wo.heap.size ≤ wo.heap.size; omega) (Value.slice y.gA y.gn y.gc)).setCell (p := ⟨wo.heap.size, 2, none⟩) (by show wo.heap.size ≤ wo.heap.size; omega) (Value.slice y.iA y.im y.ic)
      have HFIN := Lib.hid (And.intro (u1.set_ 2 (Value.slice y.iA y.im y.ic)) (And.intro (HYW.out.keep hK (by decide) (by decide) (by decide) (by decide) (by decide)) hBl))
      clear u0 u1 hK hBl
      go_simp
      refine wpAnyE_done (by kernel_rfl) ?_ _
      refine NoPanic.normal ?_
      go_wp2_with fail
      go_meet
      case rel => first
        | exact ⟨wo.heap.size, y, rfl, Lib.hid ⟨HFIN.out.1, HFIN.out.2.1, HY6.out.2.1, HY6.out.2.2.1, HY6.out.2.2.2, by omega⟩, Lib.hid HFIN.out.2.2⟩
        | exact ⟨wo.heap.size, y, rfl, Lib.hid ⟨Bk.drew HFIN.out.1, HFIN.out.2.1.keep (F := []) (Kx.refl (B := 0)).drew (by simp) (by simp) (by simp) (by simp) (by simp), HY6.out.2.1, HY6.out.2.2.1, HY6.out.2.2.2, by omega⟩, Lib.hid HFIN.out.2.2.drew⟩
  case rest =>
    obtain ⟨h12, y, rfl, HY, HBc⟩ := hcut
    obtain ⟨wv, rfl⟩ : ∃ q, q = wc := ⟨_, rfl⟩
    have hUv := HU.out.quiet HBc.out
    have HUv := Lib.hid hUv
    have hwk : wcheckF y.p = 0 := wcheck_of (by rw [HY.out.2.2.2.1]; exact HK.out.1) HY.out.2.2.1
    have v0 : wv.cell? ⟨h12, 0, none⟩ = some (.slice y.kA y.kn y.kc) := HY.out.1.cell 0
    have v1 : wv.cell? ⟨h12, 1, none⟩ = some (.slice y.gA y.gn y.gc) := HY.out.1.cell 1
    have v2 : wv.cell? ⟨h12, 2, none⟩ = some (.slice y.iA y.im y.ic) := HY.out.1.cell 2
    clear q0 q1 q2 HCH HSF hbb hUv
    by_cases hs : now.p = y.p
    · have HDO := Lib.hid (do_same hb w0.heap.size now y nm dA gA pa dc gn gc D G wv HUv.out.hy HY.out.2.1 hwk hs)
      have HS := Lib.hid hs
      clear hwk hs
      go_wp2_with fail
      with_reducible refine (HDO.out).mono ?_
      clear HDO v0 v1 v2
      rintro e w3 ⟨rfl, hb3⟩
      have hU3 := HUv.out.quiet hb3
      have hk12 := HY.out.1.below hb3 HY.out.1.lt
      obtain ⟨b', o', e', hbq, r0, r1, r2⟩ := hU3.world HA.out.1
      injection e' with e'
      injection e' with e1 e2
      subst e1 e2
      have hr3 := And.intro r0 (And.intro r1 r2)
      have HSM : Hid (∀ wz, Below w3.heap.size w3 wz → Calls Try.prog 38 #[.agg #[.slice y.kA y.kn y.kc, .slice y.gA y.gn y.gc, .slice y.iA y.im y.ic], .agg #[.slice zb.kA zb.kn zb.kc, .slice zb.gA zb.gn zb.gc, .slice zb.iA zb.im zb.ic]] wz fun e w' => e = .returned (.bool true) ∧ Below wz.heap.size wz w') := Lib.hid (fun wz hz => by
        have h1 := wsame_any (HY.out.2.1.ok_.below (hb3.trans (hz.mono hb3.size))) ((hU3.ul.y zb HA.out.2.1).1.ok_.below hz)
        rw [decide_eq_true (HS.out.symm.trans HA.out.2.2)] at h1; exact h1)
      have HU3 := Lib.hid hU3
      have HB3 := Lib.hid hb3
      have hb3 := hbq
      have hS6 : ∀ wz, Below w3.heap.size w3 wz → wz.cell? ⟨h12, 0, none⟩ = some (.slice y.kA y.kn y.kc) ∧ wz.cell? ⟨h12, 0 + 1, none⟩ = some (.slice y.gA y.gn y.gc) ∧ wz.cell? ⟨h12, 0 + 2, none⟩ = some (.slice y.iA y.im y.ic) ∧ wz.cell? ⟨b, o + pa * 3, none⟩ = some (.slice zb.kA zb.kn zb.kc) ∧ wz.cell? ⟨b, o + pa * 3 + 1, none⟩ = some (.slice zb.gA zb.gn zb.gc) ∧ wz.cell? ⟨b, o + pa * 3 + 2, none⟩ = some (.slice zb.iA zb.im zb.ic) := fun wz hz => by
        have k9 := hk12.below hz hk12.lt
        exact ⟨k9.cell 0, k9.cell 1, k9.cell 2, (World.cell?_of_block (w := w3) (hz.block b hb3)).trans hr3.1, (World.cell?_of_block (w := w3) (hz.block b hb3)).trans hr3.2.1, (World.cell?_of_block (w := w3) (hz.block b hb3)).trans hr3.2.2⟩
      have s6 := hS6 w3.drew ((Below.refl _ _).drew)
      have HS6 := Lib.hid hS6
      clear hS6 hr3 hb3
      clear hbq r0 r1 r2 hU3
      go_upto_if 75 with fail
      go_cut [75] from 70 to 74 (fun bv wx => bv = .bool true ∧ Hid (Below w3.heap.size w3 wx))
      case first =>
        refine wp_region_noPanic ?_
        refine wp_region_H (S := fun wz => wz.cell? ⟨h12, 0, none⟩ = some (.slice y.kA y.kn y.kc) ∧ wz.cell? ⟨h12, 0 + 1, none⟩ = some (.slice y.gA y.gn y.gc) ∧ wz.cell? ⟨h12, 0 + 2, none⟩ = some (.slice y.iA y.im y.ic) ∧ wz.cell? ⟨b, o + pa * 3, none⟩ = some (.slice zb.kA zb.kn zb.kc) ∧ wz.cell? ⟨b, o + pa * 3 + 1, none⟩ = some (.slice zb.gA zb.gn zb.gc) ∧ wz.cell? ⟨b, o + pa * 3 + 2, none⟩ = some (.slice zb.iA zb.im zb.ic)) (by kernel_rfl) ?_
        refine wpAnyH_val (i := 0) (v := .agg #[.slice y.kA y.kn y.kc, .slice y.gA y.gn y.gc, .slice y.iA y.im y.ic]) (d := some 70) rfl rfl (by kernel_rfl) (by kernel_rfl) (by kernel_rfl) (fun _ _ _ h => h) (Or.inl ⟨by rfl, fun w hS => by (obtain ⟨h0, h1, h2, h3, h4, h5⟩ := hS; go_simp)⟩) s6 ?_
        (try simp only [Act.put, List.setIfInBounds_toArray, List.set_cons_zero, List.set_cons_succ])
        refine wpAnyH_val (i := 1) (v := .slice (some ⟨b, o, none⟩) L ac) (d := some 71) rfl rfl (by kernel_rfl) (by kernel_rfl) (by kernel_rfl) (fun _ _ _ h => h) (Or.inl ⟨by rfl, fun w hS => by (obtain ⟨h0, h1, h2, h3, h4, h5⟩ := hS; go_simp)⟩) s6 ?_
        (try simp only [Act.put, List.setIfInBounds_toArray, List.set_cons_zero, List.set_cons_succ])
        refine wpAnyH_val (i := 2) (v := .int .i64 pa) (d := some 72) rfl rfl (by kernel_rfl) (by kernel_rfl) (by kernel_rfl) (fun _ _ _ h => h) (Or.inl ⟨by rfl, fun w hS => by (obtain ⟨h0, h1, h2, h3, h4, h5⟩ := hS; go_simp)⟩) s6 ?_
        (try simp only [Act.put, List.setIfInBounds_toArray, List.set_cons_zero, List.set_cons_succ])
        refine wpAnyH_val (i := 3) (v := .pointer (some ⟨b, o + pa * 3, none⟩)) (d := some 73) rfl rfl (by kernel_rfl) (by kernel_rfl) (by kernel_rfl) (fun _ _ _ h => h) (Or.inl ⟨by rfl, fun w hS => by (obtain ⟨h0, h1, h2, h3, h4, h5⟩ := hS; go_simp)⟩) s6 ?_
        (try simp only [Act.put, List.setIfInBounds_toArray, List.set_cons_zero, List.set_cons_succ])
        refine wpAnyH_val (i := 4) (v := .agg #[.slice zb.kA zb.kn zb.kc, .slice zb.gA zb.gn zb.gc, .slice zb.iA zb.im zb.ic]) (d := some 74) rfl rfl (by kernel_rfl) (by kernel_rfl) (by kernel_rfl) (fun _ _ _ h => h) (Or.inl ⟨by rfl, fun w hS => by (obtain ⟨h0, h1, h2, h3, h4, h5⟩ := hS; go_simp)⟩) s6 ?_
        (try simp only [Act.put, List.setIfInBounds_toArray, List.set_cons_zero, List.set_cons_succ])
        refine wpAnyH_oneW (i := 5) rfl (by kernel_rfl) (by rfl) ?_
        go_simp
        go_at_call 38
        (with_reducible refine (HSM.out _ ?hb).mono ?_)
        case hb => (repeat' first | exact Below.refl _ _ | refine Below.drew ?_)
        rintro e w6 ⟨rfl, hb6⟩
        have hB6 : Below w3.heap.size w3 w6 := Below.tr (by repeat' first | exact Below.refl _ _ | refine Below.drew ?_) hb6
        refine And.intro (HS6.out _ hB6) ?_
        (try simp only [Act.put, List.setIfInBounds_toArray, List.set_cons_zero, List.set_cons_succ])
        refine wpAnyH_done (by kernel_rfl) ?_ _
        refine NoPanic.normal ?_
        go_wp2_with fail
        go_meet
        case rel => exact ⟨rfl, Lib.hid hB6⟩
      case rest =>
        obtain ⟨rfl, HB6⟩ := hcut
        go_wp2_with fail
        exact Lib.hid ⟨_, _, _, _, _, _, _, _, _, _, HU3.out.below HB6.out⟩
    · have hlz := HUv.out.ul.y zb HA.out.2.1
      have gx : GoodW zb.p := HUv.out.ul.good HK.out.1 HA.out.2.1
      have gv : GoodW y.p := goodW_of (by rw [HY.out.2.2.2.1]; exact HK.out.1) HY.out.2.2.1
      have hok : encOk (FW now.p) (FW y.p) := by rw [HA.out.2.2]; exact encOk_of4 gx.sz gv.sz hlz.2.1 HY.out.2.2.1 (by rw [HY.out.2.2.2.1, hlz.2.2.1]) (by rw [hlz.2.2.1]; exact HK.out.2.1) (by rw [hlz.2.2.1]; exact HK.out.2.2) (by have := hlz.2.2.2; omega) (by have := HY.out.2.2.2.2.1; omega)
      have hok2 : encOk (FW y.p) (FW now.p) := by rw [HA.out.2.2]; exact encOk_of4 gv.sz gx.sz HY.out.2.2.1 hlz.2.1 (by rw [HY.out.2.2.2.1, hlz.2.2.1]) (by rw [HY.out.2.2.2.1]; exact HK.out.2.1) (by rw [HY.out.2.2.2.1]; exact HK.out.2.2) (by have := HY.out.2.2.2.2.1; omega) (by have := hlz.2.2.2; omega)
      have HDO := Lib.hid (do2_any hb w0.heap.size now y nm dA gA pa dc gn gc D G wv HUv.out.hy HY.out.2.1 hwk hs (by rw [HA.out.2.2]; exact gx) gv hok hok2 (by have := HUv.out.bnd; omega) HUv.out.bel.size)
      have HS := Lib.hid hs
      clear hwk hs hlz gx gv hok hok2
      go_wp2_with fail
      with_reducible refine (HDO.out).mono ?_
      clear HDO v0 v1 v2
      rintro e w3 ⟨y2, A2, n2, c2, s, rfl, HH3, HKZ⟩
      have hk3 : Kx 0 [263, 265] wv w3 := HKZ.out.kx.mono (Nat.zero_le _) (fun _ h => h)
      have hul3 := HUv.out.ul.keep hk3 (by decide) (by decide) (by decide) (by decide) (by decide) (by decide) (by decide)
      have hy3 := HY.out.2.1.keep hk3 (by decide) (by decide) (by decide) (by decide) (by decide)
      have hk12 := hk3.bk HY.out.1 (by decide)
      obtain ⟨b', o', e', hbq, r0, r1, r2⟩ := hul3.own.rdy.rd.wd (by have := HU.out.len; omega) HA.out.1
      injection e' with e'
      injection e' with e1 e2
      subst e1 e2
      have hr3 := And.intro r0 (And.intro r1 r2)
      have HSM : Hid (∀ wz, Below w3.heap.size w3 wz → Calls Try.prog 38 #[.agg #[.slice y.kA y.kn y.kc, .slice y.gA y.gn y.gc, .slice y.iA y.im y.ic], .agg #[.slice zb.kA zb.kn zb.kc, .slice zb.gA zb.gn zb.gc, .slice zb.iA zb.im zb.ic]] wz fun e w' => e = .returned (.bool false) ∧ Below wz.heap.size wz w') := Lib.hid (fun wz hz => by
        have h1 := wsame_any (hy3.ok_.below hz) ((hul3.y zb HA.out.2.1).1.ok_.below hz)
        rw [decide_eq_false (fun e => HS.out (HA.out.2.2.trans e.symm))] at h1; exact h1)
      have HUL3 := Lib.hid hul3
      have HY3 := Lib.hid hy3
      have HK12 := Lib.hid hk12
      have hb3 := hbq
      have hS6 : ∀ wz, Below w3.heap.size w3 wz → wz.cell? ⟨h12, 0, none⟩ = some (.slice y.kA y.kn y.kc) ∧ wz.cell? ⟨h12, 0 + 1, none⟩ = some (.slice y.gA y.gn y.gc) ∧ wz.cell? ⟨h12, 0 + 2, none⟩ = some (.slice y.iA y.im y.ic) ∧ wz.cell? ⟨b, o + pa * 3, none⟩ = some (.slice zb.kA zb.kn zb.kc) ∧ wz.cell? ⟨b, o + pa * 3 + 1, none⟩ = some (.slice zb.gA zb.gn zb.gc) ∧ wz.cell? ⟨b, o + pa * 3 + 2, none⟩ = some (.slice zb.iA zb.im zb.ic) := fun wz hz => by
        have k9 := hk12.below hz hk12.lt
        exact ⟨k9.cell 0, k9.cell 1, k9.cell 2, (World.cell?_of_block (w := w3) (hz.block b hb3)).trans hr3.1, (World.cell?_of_block (w := w3) (hz.block b hb3)).trans hr3.2.1, (World.cell?_of_block (w := w3) (hz.block b hb3)).trans hr3.2.2⟩
      have s6 := hS6 w3.drew ((Below.refl _ _).drew)
      have HS6 := Lib.hid hS6
      clear hS6 hr3 hb3
      clear hbq r0 r1 r2 hul3 hy3 hk3 hk12
      go_upto_if 75 with fail
      go_cut [75] from 70 to 74 (fun bv wx => bv = .bool false ∧ Hid (Below w3.heap.size w3 wx))
      case first =>
        refine wp_region_noPanic ?_
        refine wp_region_H (S := fun wz => wz.cell? ⟨h12, 0, none⟩ = some (.slice y.kA y.kn y.kc) ∧ wz.cell? ⟨h12, 0 + 1, none⟩ = some (.slice y.gA y.gn y.gc) ∧ wz.cell? ⟨h12, 0 + 2, none⟩ = some (.slice y.iA y.im y.ic) ∧ wz.cell? ⟨b, o + pa * 3, none⟩ = some (.slice zb.kA zb.kn zb.kc) ∧ wz.cell? ⟨b, o + pa * 3 + 1, none⟩ = some (.slice zb.gA zb.gn zb.gc) ∧ wz.cell? ⟨b, o + pa * 3 + 2, none⟩ = some (.slice zb.iA zb.im zb.ic)) (by kernel_rfl) ?_
        refine wpAnyH_val (i := 0) (v := .agg #[.slice y.kA y.kn y.kc, .slice y.gA y.gn y.gc, .slice y.iA y.im y.ic]) (d := some 70) rfl rfl (by kernel_rfl) (by kernel_rfl) (by kernel_rfl) (fun _ _ _ h => h) (Or.inl ⟨by rfl, fun w hS => by (obtain ⟨h0, h1, h2, h3, h4, h5⟩ := hS; go_simp)⟩) s6 ?_
        (try simp only [Act.put, List.setIfInBounds_toArray, List.set_cons_zero, List.set_cons_succ])
        refine wpAnyH_val (i := 1) (v := .slice (some ⟨b, o, none⟩) L ac) (d := some 71) rfl rfl (by kernel_rfl) (by kernel_rfl) (by kernel_rfl) (fun _ _ _ h => h) (Or.inl ⟨by rfl, fun w hS => by (obtain ⟨h0, h1, h2, h3, h4, h5⟩ := hS; go_simp)⟩) s6 ?_
        (try simp only [Act.put, List.setIfInBounds_toArray, List.set_cons_zero, List.set_cons_succ])
        refine wpAnyH_val (i := 2) (v := .int .i64 pa) (d := some 72) rfl rfl (by kernel_rfl) (by kernel_rfl) (by kernel_rfl) (fun _ _ _ h => h) (Or.inl ⟨by rfl, fun w hS => by (obtain ⟨h0, h1, h2, h3, h4, h5⟩ := hS; go_simp)⟩) s6 ?_
        (try simp only [Act.put, List.setIfInBounds_toArray, List.set_cons_zero, List.set_cons_succ])
        refine wpAnyH_val (i := 3) (v := .pointer (some ⟨b, o + pa * 3, none⟩)) (d := some 73) rfl rfl (by kernel_rfl) (by kernel_rfl) (by kernel_rfl) (fun _ _ _ h => h) (Or.inl ⟨by rfl, fun w hS => by (obtain ⟨h0, h1, h2, h3, h4, h5⟩ := hS; go_simp)⟩) s6 ?_
        (try simp only [Act.put, List.setIfInBounds_toArray, List.set_cons_zero, List.set_cons_succ])
        refine wpAnyH_val (i := 4) (v := .agg #[.slice zb.kA zb.kn zb.kc, .slice zb.gA zb.gn zb.gc, .slice zb.iA zb.im zb.ic]) (d := some 74) rfl rfl (by kernel_rfl) (by kernel_rfl) (by kernel_rfl) (fun _ _ _ h => h) (Or.inl ⟨by rfl, fun w hS => by (obtain ⟨h0, h1, h2, h3, h4, h5⟩ := hS; go_simp)⟩) s6 ?_
        (try simp only [Act.put, List.setIfInBounds_toArray, List.set_cons_zero, List.set_cons_succ])
        refine wpAnyH_oneW (i := 5) rfl (by kernel_rfl) (by rfl) ?_
        go_simp
        go_at_call 38
        (with_reducible refine (HSM.out _ ?hb).mono ?_)
        case hb => (repeat' first | exact Below.refl _ _ | refine Below.drew ?_)
        rintro e w6 ⟨rfl, hb6⟩
        have hB6 : Below w3.heap.size w3 w6 := Below.tr (by repeat' first | exact Below.refl _ _ | refine Below.drew ?_) hb6
        refine And.intro (HS6.out _ hB6) ?_
        (try simp only [Act.put, List.setIfInBounds_toArray, List.set_cons_zero, List.set_cons_succ])
        refine wpAnyH_done (by kernel_rfl) ?_ _
        refine NoPanic.normal ?_
        go_wp2_with fail
        go_meet
        case rel => exact ⟨rfl, Lib.hid hB6⟩
      case rest =>
        obtain ⟨rfl, HB6⟩ := hcut
        obtain ⟨wu, rfl⟩ : ∃ q, q = wc := ⟨_, rfl⟩
        have hul := HUL3.out.keep (Kx.of_below (B := 0) (F := []) HB6.out) (by simp) (by simp) (by simp) (by simp) (by simp) (by simp) (by simp)
        have hk12 := HK12.out.below HB6.out HK12.out.lt
        have hlen := HU.out.len
        have hbn := HU.out.bnd
        obtain ⟨gb, gof, curA, e1, hbA, hbka, hca, hcA2, _, _⟩ := hul.own.at_ (by omega)
        injection e1 with e1
        injection e1 with e1 e2
        subst e1 e2
        obtain ⟨nb, no, curN, rfl, hbN, hbkn, hcn, hcN2, _, _⟩ := hul.nown.at_ (by omega)
        obtain ⟨pq, hpq⟩ : ∃ pq, pq = pa + 1 := ⟨_, rfl⟩
        have hwl : Ws.length = L := HU.out.wlen
        have hnl : Ns.length = L := HU.out.nlen
        have hra : RdY wu 0 52 3 (some ⟨b, o, none⟩) pq (wdCs (Ws.take pq)) := by
          have h1 := hul.own
          rw [split3 Ws (Nat.zero_le pq), List.take_zero, List.nil_append, List.drop_zero, wdCs_app] at h1
          exact (h1.head (m := pq) (by rw [wdCs_length, List.length_take, Nat.min_eq_left (by omega)]) (by omega)).rdy
        have hrn : RdY wu 0 9 1 (some ⟨nb, no, none⟩) pq (strV (Ns.take pq)) := by
          have h1 := hul.nown
          rw [split3 Ns (Nat.zero_le pq), List.take_zero, List.nil_append, List.drop_zero, strV_app2] at h1
          exact (h1.head (m := pq) (by rw [strV_length, List.length_take, Nat.min_eq_left (by omega), Nat.mul_one]) (by omega)).rdy
        have hne : h12 ≠ b := by have := HY.out.2.2.2.2.2; have := HLB.out; omega
        have hz1 : IntKind.i64.wrap ((pa : Int) + 1) = (pq : Int) := by rw [IntKind.wrap_i64]; omega
        have hq0 : (0 : Int) ≤ pq := by omega
        have hq1 : (pq : Int) ≤ ac := by omega
        have hq2 : (pq : Int) ≤ nc := by omega
        have hq3 : pq ≤ ac := by omega
        have hq4 : pq ≤ nc := by omega
        have hq5 : pq < 1000 := by omega
        have hbu : w0.heap.size ≤ wu.heap.size := by have := hbkn.lt; omega
        have v0 : wu.cell? ⟨h12, 0, none⟩ = some (.slice y.kA y.kn y.kc) := hk12.cell 0
        have v1 : wu.cell? ⟨h12, 1, none⟩ = some (.slice y.gA y.gn y.gc) := hk12.cell 1
        have v2 : wu.cell? ⟨h12, 2, none⟩ = some (.slice y.iA y.im y.ic) := hk12.cell 2
        have v3 : (wu.alloc (.cells #[.string nm] 9)).cell? ⟨h12, 0, none⟩ = some (.slice y.kA y.kn y.kc) := (hk12.alloc _).cell 0
        have v4 : (wu.alloc (.cells #[.string nm] 9)).cell? ⟨h12, 1, none⟩ = some (.slice y.gA y.gn y.gc) := (hk12.alloc _).cell 1
        have v5 : (wu.alloc (.cells #[.string nm] 9)).cell? ⟨h12, 2, none⟩ = some (.slice y.iA y.im y.ic) := (hk12.alloc _).cell 2
        have HPQ := Lib.hid hpq
        have HUL := Lib.hid hul
        have HLN := Lib.hid (And.intro hlen (And.intro hbn (And.intro hwl hnl)))
        clear hul hlen hbn hwl hnl hpq hcA2 hcN2 hca hcn s6
        go_upto_region 18 with fail
        go_cut [8, 9] from 80 to 97 (fun sa sn wx => ∃ (gA2 oA2 cA2 gN2 oN2 cN2 : Nat), sa = .slice (some ⟨gA2, oA2, none⟩) (pq + 1) cA2 ∧ sn = .slice (some ⟨gN2, oN2, none⟩) (pq + 1) cN2 ∧ Hid (OwnO wx w0.heap.size 52 3 (some ⟨gA2, oA2, none⟩) (pq + 1) cA2 (wdCs (Ws.take pq) ++ [.slice y.kA y.kn y.kc, .slice y.gA y.gn y.gc, .slice y.iA y.im y.ic]) ∧ OwnO wx w0.heap.size 9 1 (some ⟨gN2, oN2, none⟩) (pq + 1) cN2 (strV (Ns.take pq) ++ [.string nm]) ∧ Kz5 w0.heap.size [52, 9] wu wx))
        case first =>
          refine wp_region_noPanic ?_
          go_region_law
            (first
              | (refine step_appW (base := w0.heap.size) (w00 := wu) (cur := curA) (cs := #[.slice y.kA y.kn y.kc, .slice y.gA y.gn y.gc, .slice y.iA y.im y.ic]) (xs := wdCs (Ws.take pq)) rfl (.tmp 85) (.tmp 87) rfl ?ra rfl rfl ?eb rfl ?c1 ?c2 hbu hbA ?ba ?hz ?_
                 case ra => (repeat' first | (with_reducible exact hra) | (with_reducible exact hraN) | (with_reducible refine RdY.drew_ ?_) | (with_reducible refine RdY.al_ ?_ _))
                 case eb => (repeat' first | (with_reducible exact Bk.new _ _ _) | (with_reducible exact Bk.two _ _ _ _) | (with_reducible refine Bk.drew ?_) | (with_reducible refine Bk.alloc ?_ _) | (with_reducible refine hkN.bk ?_ (by decide)))
                 case c1 => simp [Value.oneCell']
                 case c2 => omega
                 case ba => (repeat' first | (with_reducible exact hbka) | (with_reducible exact hbkaN) | (with_reducible refine Bk.drew ?_) | (with_reducible refine Bk.alloc ?_ _))
                 case hz => (repeat' first | (with_reducible exact Kz5.refl_) | (with_reducible exact hzN) | (with_reducible refine Kz5.drew_ ?_) | (with_reducible refine Kz5.al_ ?_ _))
                 intro gA2 oA2 cA2 wA hOA hkA hgA hzA
                 first
                   | (have hONA : OwnO wA w0.heap.size 9 1 (some ⟨gN2, oN2, none⟩) (pq + 1) cN2 (strV (Ns.take pq) ++ [.string nm]) := by
                        refine OwnO.keep ?_ hkA (by decide)
                        repeat' first | (with_reducible exact hON) | (with_reducible refine OwnO.drew_ ?_) | (with_reducible refine OwnO.al_ ?_ _))
                   | (have hrnA : RdY wA 0 9 1 (some ⟨nb, no, none⟩) pq (strV (Ns.take pq)) := by
                        refine RdY.keep ?_ hkA (by decide)
                        repeat' first | (with_reducible exact hrn) | (with_reducible refine RdY.drew_ ?_) | (with_reducible refine RdY.al_ ?_ _)
                      have hbknA : Bk wA nb 9 curN := by
                        refine hkA.bk ?_ (by decide)
                        repeat' first | (with_reducible exact hbkn) | (with_reducible refine Bk.drew ?_) | (with_reducible refine Bk.alloc ?_ _)))
              | (refine step_appS (base := w0.heap.size) (w00 := wu) (cur := curN) (cs := #[.string nm]) (xs := strV (Ns.take pq)) rfl (.tmp 94) (.tmp 96) rfl ?ra rfl rfl ?eb rfl ?c1 ?c2 hbu hbN ?ba ?hz ?_
                 case ra => (repeat' first | (with_reducible exact hrn) | (with_reducible exact hrnA) | (with_reducible refine RdY.drew_ ?_) | (with_reducible refine RdY.al_ ?_ _))
                 case eb => (repeat' first | (with_reducible exact Bk.new _ _ _) | (with_reducible exact Bk.two _ _ _ _) | (with_reducible refine Bk.drew ?_) | (with_reducible refine Bk.alloc ?_ _) | (with_reducible refine hkA.bk ?_ (by decide)))
                 case c1 => simp [Value.oneCell']
                 case c2 => omega
                 case ba => (repeat' first | (with_reducible exact hbkn) | (with_reducible exact hbknA) | (with_reducible refine Bk.drew ?_) | (with_reducible refine Bk.alloc ?_ _))
                 case hz => (repeat' first | (with_reducible exact Kz5.refl_) | (with_reducible exact hzA) | (with_reducible refine Kz5.drew_ ?_) | (with_reducible refine Kz5.al_ ?_ _))
                 intro gN2 oN2 cN2 wN hON hkN hgN hzN
                 first
                   | (have hOAN : OwnO wN w0.heap.size 52 3 (some ⟨gA2, oA2, none⟩) (pq + 1) cA2 (wdCs (Ws.take pq) ++ [.slice y.kA y.kn y.kc, .slice y.gA y.gn y.gc, .slice y.iA y.im y.ic]) := by
                        refine OwnO.keep ?_ hkN (by decide)
                        repeat' first | (with_reducible exact hOA) | (with_reducible refine OwnO.drew_ ?_) | (with_reducible refine OwnO.al_ ?_ _))
                   | (have hraN : RdY wN 0 52 3 (some ⟨b, o, none⟩) pq (wdCs (Ws.take pq)) := by
                        refine RdY.keep ?_ hkN (by decide)
                        repeat' first | (with_reducible exact hra) | (with_reducible refine RdY.drew_ ?_) | (with_reducible refine RdY.al_ ?_ _)
                      have hbkaN : Bk wN b 52 curA := by
                        refine hkN.bk ?_ (by decide)
                        repeat' first | (with_reducible exact hbka) | (with_reducible refine Bk.drew ?_) | (with_reducible refine Bk.alloc ?_ _)
                      have hk12N : Bk wN h12 52 #[.slice y.kA y.kn y.kc, .slice y.gA y.gn y.gc, .slice y.iA y.im y.ic] := by
                        refine hkN.bk ?_ (by decide)
                        repeat' first | (with_reducible exact hk12) | (with_reducible refine Bk.drew ?_) | (with_reducible refine Bk.alloc ?_ _)
                      have v6 : wN.cell? ⟨h12, 0, none⟩ = some (.slice y.kA y.kn y.kc) := hk12N.cell 0
                      have v7 : wN.cell? ⟨h12, 1, none⟩ = some (.slice y.gA y.gn y.gc) := hk12N.cell 1
                      have v8 : wN.cell? ⟨h12, 2, none⟩ = some (.slice y.iA y.im y.ic) := hk12N.cell 2)))
          all_goals
            refine NoPanic.normal ?_
            go_wp2_with fail
            go_meet
            case rel => first
              | exact ⟨gA2, oA2, cA2, gN2, oN2, cN2, rfl, rfl, Lib.hid ⟨hOA, hONA, hzA⟩⟩
              | exact ⟨gA2, oA2, cA2, gN2, oN2, cN2, rfl, rfl, Lib.hid ⟨hOAN, hON, hzN⟩⟩
        case rest =>
          obtain ⟨gA2, oA2, cA2, gN2, oN2, cN2, rfl, rfl, HO⟩ := hcut
          obtain ⟨w9, rfl⟩ : ∃ q, q = wc := ⟨_, rfl⟩
          have hk9 : Kx 0 [52, 9] wu w9 := HO.out.2.2.kx.mono (Nat.zero_le _) (fun _ h => h)
          have hh9 := (HH3.out.1.below HB6.out).keepx hk9 (by decide) (by decide) (by decide) (by decide) (by decide) (by decide) (by decide) (by decide)
          have hul9 : UL w9 w0.heap.size (some ⟨gA2, oA2, none⟩) (pq + 1) cA2 (Ws.take pq ++ [y]) (some ⟨gN2, oN2, none⟩) cN2 (Ns.take pq ++ [nm]) K0 (i + 1) := ⟨by rw [wdCs_app, wdCs_one]; exact HO.out.1, by rw [strV_app2]; exact HO.out.2.1, fun x hx => by
            rcases List.mem_append.1 hx with hx | hx
            · have hx' := List.mem_of_mem_take hx
              exact ⟨(HUL.out.y x hx').1.keep hk9 (by decide) (by decide) (by decide) (by decide) (by decide), (HUL.out.y x hx').2.1, (HUL.out.y x hx').2.2.1, by have := (HUL.out.y x hx').2.2.2; omega⟩
            · rw [List.mem_singleton.1 hx]
              exact ⟨(HY3.out.keep (Kx.of_below (B := 0) (F := []) HB6.out) (by simp) (by simp) (by simp) (by simp) (by simp)).keep hk9 (by decide) (by decide) (by decide) (by decide) (by decide), HY.out.2.2.1, HY.out.2.2.2.1, HY.out.2.2.2.2.1⟩⟩
          have hbl2 : Below w0.heap.size w0 w3 := HUv.out.bel.trans (HKZ.out.toBelow HUv.out.bel.size)
          have hbl3 : Below w0.heap.size w0 wu := hbl2.trans (HB6.out.mono hbl2.size)
          have hbl9 : Below w0.heap.size w0 w9 := hbl3.trans (HO.out.2.2.toBelow hbl3.size)
          have hdl := HU.out.hy.d.len
          have hj : Go.Proofs.Ytnidcmhfbkdioaa.HU (D ++ [s]) ((Ws.take pq ++ [y]).map Wd.p) (Ns.take pq ++ [nm]) := by
            have h1 := HU.out.hu.do_ (D := D) (E := G.reverse) (s := s) (a := now.p) (v := y.p) (by rw [← hdl]; exact HU.out.nw) HH3.out.2.2.2.2.1 HH3.out.2.2.2.2.2
            rw [← hdl, ← HPQ.out, HH3.out.2.2.2.1] at h1
            rw [List.map_append, List.map_take]
            exact h1
          have hnw : ((Ws.take pq ++ [y]).map Wd.p)[pq]? = some y2.p := by
            rw [List.getElem?_map, get_take_app _ _ _ _ (by have := HLN.out; have := HPQ.out; omega), if_neg (by omega), Nat.sub_self, HH3.out.2.2.1]; rfl
          have hn2 := HH3.out.2.1
          by_cases h100 : pa < 100
          · have hl1 : last100 pa (D ++ [s]) = D ++ [s] := by unfold last100; rw [if_pos h100]
            have hl2 : n2 = pq := by rw [hn2, HPQ.out]; unfold lastN; omega
            rw [hl1, hl2] at hh9
            have hq6 : ¬ ((100 : Int) < pq) := by have := HPQ.out; omega
            have HV : Hid (US w0 w9 hb (some ⟨gA2, oA2, none⟩) (some ⟨gN2, oN2, none⟩) (pq + 1) cA2 cN2 pq K0 (i + 1) (Ws.take pq ++ [y]) (Ns.take pq ++ [nm]) y2 A2 none c2 0 0 (D ++ [s]) []) := Lib.hid ⟨hul9, hh9, by rw [List.reverse_nil, List.append_nil]; exact hj, hnw, rfl, by have := HPQ.out; omega, hbl9⟩
            clear hk9 hh9 hul9 hbl2 hbl3 hbl9 hdl hj hnw hn2 h100 hl1 hl2
            go_wp2_with fail
            exact hN _ _ _ _ _ _ _ _ _ _ _ _ _ _ _ _ _ _ _ _ _ _ _ _ _ _ _ _ _ _ _ _ _ _ _ _ _ _ _ _ _ _ _ _ _ _ _ _ _ _ _ _ (some ⟨gA2, oA2, none⟩) (some ⟨gN2, oN2, none⟩) (pq + 1) cA2 cN2 pq _ (Lib.hid ⟨_, _, _, _, _, _, _, _, _, _, HV.out⟩)
          · have h100' : pa = 100 := by have := HLN.out; omega
            have hl1 : last100 pa (D ++ [s]) = (D ++ [s]).tail := by unfold last100; rw [if_neg h100]
            have hl2 : n2 = pa := by rw [hn2]; unfold lastN; omega
            rw [hl1, hl2] at hh9
            obtain ⟨g1, o1, e1, hta⟩ := hul9.own.tailW
            injection e1 with e1
            injection e1 with e1 e2
            subst e1 e2
            obtain ⟨g1, o1, e1, htn⟩ := hul9.nown.tailS
            injection e1 with e1
            injection e1 with e1 e2
            subst e1 e2
            have hcA := hul9.own.caps.1
            have hcN := hul9.nown.caps.1
            have hq6 : (100 : Int) < pq := by have := HPQ.out; omega
            have hz9 : IntKind.i64.wrap ((pq : Int) - 1) = (pa : Int) := by have := HPQ.out; rw [IntKind.wrap_i64]; omega
            have hc1 : ¬ (cA2 = 1) := by omega
            have hc2 : ¬ (cN2 = 1) := by omega
            have hc3 : (1 : Int) ≤ (pq : Int) + 1 := by omega
            have hc4 : pq + 1 - 1 = pq := by omega
            have hc5 : 1 ≤ cA2 := by omega
            have hc6 : 1 ≤ cN2 := by omega
            have HV : Hid (US w0 w9 hb (some ⟨gA2, oA2 + 3, none⟩) (some ⟨gN2, oN2 + 1, none⟩) pq (cA2 - 1) (cN2 - 1) pa K0 (i + 1) (Ws.take pq ++ [y]).tail (Ns.take pq ++ [nm]).tail y2 A2 none c2 0 0 (D ++ [s]).tail []) := Lib.hid ⟨⟨hta, htn, fun x hx => hul9.y x (List.mem_of_mem_tail hx)⟩, hh9, by rw [List.reverse_nil, List.append_nil, List.map_tail]; exact hj.tail (by simp), by rw [List.map_tail, List.getElem?_tail, ← HPQ.out]; exact hnw, by have := HPQ.out; omega, by omega, hbl9⟩
            clear hk9 hh9 hul9 hbl2 hbl3 hbl9 hdl hj hnw hn2 h100 h100' hl1 hl2 hta htn hcA hcN
            go_wp2_with fail
            go_quiet (fail)
            go_wp2_with fail
            exact hN _ _ _ _ _ _ _ _ _ _ _ _ _ _ _ _ _ _ _ _ _ _ _ _ _ _ _ _ _ _ _ _ _ _ _ _ _ _ _ _ _ _ _ _ _ _ _ _ _ _ _ _ (some ⟨gA2, oA2 + 3, none⟩) (some ⟨gN2, oN2 + 1, none⟩) pq (cA2 - 1) (cN2 - 1) pa _ (Lib.hid ⟨_, _, _, _, _, _, _, _, _, _, HV.out.quiet (below_drewN (Below.refl _ _) _)⟩)

end Go.Proofs.Ytnidcmhfbkdioaa
