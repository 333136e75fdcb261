/-
  The arms of Undo and Redo, the end of a round in the law UndoSays; the contract of the fact on histories. Conditions: fewer than 120 rounds.
-/
import Derived.Test.YtnidcmhfbkdioaaXy
namespace Go.Proofs.Ytnidcmhfbkdioaa
open Go.RowKit
set_option maxRecDepth 100000

/-! ### Xt -/
set_option maxHeartbeats 6000000 in
theorem usUndo_any {x0 x2 x3 x4 x5 x7 x14 x15 x16 x17 x18 x19 x20 x21 x22 x23 x24 x25 x26 x27 x28 x29 x30 x31 x32 x33 x34 x35 x36 x37 x38 x39 x40 x41 x42 x43 x44 x45 x46 x47 x48 x49 x50 x51 x52 x53 x54 x55 x56 x57 x58 x59 x60 x61 x62 x63 x64 x65 x66 x67 x68 x69 x70 x71 x72 x73 x74 x75 x76 x77 x78 x79 x80 x81 x82 x83 x84 x85 x86 x87 x88 x89 x90 x91 x92 x93 x94 x95 x96 x97 x98 x99 x100 x101 x102 x103 x104 x105 x106 x107 x108 x109 x110 x111 x112 x113 x114 x115 x116 x117 x118 x119 x120 x121 x122 x123 x124 x125 x126 x127 x128 x129 x130 x131 x132 x133 x134 x135 x136 x137 x138 x139 x140 x141 x142 x143 x144 x145 x146 x147 x148 x149 x150 x151 x152 x153 x154 x155 x156 x157 x158 x159 x160 x161 x162 x163 x164 x165 x166 x167 x168 x169 x170 x171 x172 x173 x174 x175 x176 x177 x178 x179 x180 x181 x182 x183 x184 x185 x186 x187 x188 x189 x190 x191 x192 x193 x194 x195 x196 x197 x198 x199 x200 x201 x202 x203 x204 x205 x206 x207 x208 x209 x210 x211 x212 x213 x214 x215 x216 x217 x218 x219 x220 x221 x222 x223 x224 x225 x226 x227 x228 x229 x230 x231 x232 x233 x234 x235 x236 x237 x238 x239 x240 x241 x242 x243 x244 x245 x246 x247 x248 x249 x250 x251 x252 x253 x254 x255 x256 x257 x258 x259 x260 x261 : Value} {Q : Exit → Act → World → Prop} {w0 wr : World} {hb : Nat} {AA NA XA : Option Addr} {L ac nc pa xn xc i : Nat} {z : Int} {nm : ByteArray} {K0 : List Kp2} (HI : Hid (USe w0 wr hb AA NA L ac nc pa K0 i)) (HK : Hid (KOk K0)) (hi : i < 120)
    (hN : ∀ (y14 y15 y110 y111 y112 y113 y114 y115 y116 y117 y118 y119 y120 y121 y122 y123 y124 y125 y126 y127 y128 y129 y130 y131 y132 y133 y134 : Value) (pa' : Nat) (w' : World), Hid (USe w0 w' hb AA NA L ac nc pa' K0 (i + 1)) → Q .normal ⟨#[x0, .slice XA xn xc, x2, x3, x4, x5, .pointer (some ⟨hb, 0, none⟩), x7, .slice AA L ac, .slice NA L nc, .int .i64 pa', .int .i64 i, .int .i64 z, .string nm, y14, y15, x16, x17, x18, x19, x20, x21, x22, x23, x24, x25, x26, x27, x28, x29, x30, x31, x32, x33, x34, x35, x36, x37, x38, x39, x40, x41, x42, x43, x44, x45, x46, x47, x48, x49, x50, x51, x52, x53, x54, x55, x56, x57, x58, x59, x60, x61, x62, x63, x64, x65, x66, x67, x68, x69, x70, x71, x72, x73, x74, x75, x76, x77, x78, x79, x80, x81, x82, x83, x84, x85, x86, x87, x88, x89, x90, x91, x92, x93, x94, x95, x96, x97, x98, x99, x100, x101, x102, x103, x104, x105, x106, x107, x108, x109, y110, y111, y112, y113, y114, y115, y116, y117, y118, y119, y120, y121, y122, y123, y124, y125, y126, y127, y128, y129, y130, y131, y132, y133, y134, x135, x136, x137, x138, x139, x140, x141, x142, x143, x144, x145, x146, x147, x148, x149, x150, x151, x152, x153, x154, x155, x156, x157, x158, x159, x160, x161, x162, x163, x164, x165, x166, x167, x168, x169, x170, x171, x172, x173, x174, x175, x176, x177, x178, x179, x180, x181, x182, x183, x184, x185, x186, x187, x188, x189, x190, x191, x192, x193, x194, x195, x196, x197, x198, x199, x200, x201, x202, x203, x204, x205, x206, x207, x208, x209, x210, x211, x212, x213, x214, x215, x216, x217, x218, x219, x220, x221, x222, x223, x224, x225, x226, x227, x228, x229, x230, x231, x232, x233, x234, x235, x236, x237, x238, x239, x240, x241, x242, x243, x244, x245, x246, x247, x248, x249, x250, x251, x252, x253, x254, x255, x256, x257, x258, x259, x260, x261], []⟩ w')
    (hE : ∀ (y14 y15 y110 y111 y112 y113 y114 y115 y116 y117 y118 y119 y120 y121 y122 y123 y124 y125 y126 y127 y128 y129 y130 y131 y132 y133 y134 : Value) (w' : World), Hid (USe w0 w' hb AA NA L ac nc pa K0 (i + 1)) → Q (.exit 1) ⟨#[x0, .slice XA xn xc, x2, x3, x4, x5, .pointer (some ⟨hb, 0, none⟩), x7, .slice AA L ac, .slice NA L nc, .int .i64 pa, .int .i64 i, .int .i64 z, .string nm, y14, y15, x16, x17, x18, x19, x20, x21, x22, x23, x24, x25, x26, x27, x28, x29, x30, x31, x32, x33, x34, x35, x36, x37, x38, x39, x40, x41, x42, x43, x44, x45, x46, x47, x48, x49, x50, x51, x52, x53, x54, x55, x56, x57, x58, x59, x60, x61, x62, x63, x64, x65, x66, x67, x68, x69, x70, x71, x72, x73, x74, x75, x76, x77, x78, x79, x80, x81, x82, x83, x84, x85, x86, x87, x88, x89, x90, x91, x92, x93, x94, x95, x96, x97, x98, x99, x100, x101, x102, x103, x104, x105, x106, x107, x108, x109, y110, y111, y112, y113, y114, y115, y116, y117, y118, y119, y120, y121, y122, y123, y124, y125, y126, y127, y128, y129, y130, y131, y132, y133, y134, x135, x136, x137, x138, x139, x140, x141, x142, x143, x144, x145, x146, x147, x148, x149, x150, x151, x152, x153, x154, x155, x156, x157, x158, x159, x160, x161, x162, x163, x164, x165, x166, x167, x168, x169, x170, x171, x172, x173, x174, x175, x176, x177, x178, x179, x180, x181, x182, x183, x184, x185, x186, x187, x188, x189, x190, x191, x192, x193, x194, x195, x196, x197, x198, x199, x200, x201, x202, x203, x204, x205, x206, x207, x208, x209, x210, x211, x212, x213, x214, x215, x216, x217, x218, x219, x220, x221, x222, x223, x224, x225, x226, x227, x228, x229, x230, x231, x232, x233, x234, x235, x236, x237, x238, x239, x240, x241, x242, x243, x244, x245, x246, x247, x248, x249, x250, x251, x252, x253, x254, x255, x256, x257, x258, x259, x260, x261], []⟩ w')
    : Code.wp Try.prog usUndo Q ⟨#[x0, .slice XA xn xc, x2, x3, x4, x5, .pointer (some ⟨hb, 0, none⟩), x7, .slice AA L ac, .slice NA L nc, .int .i64 pa, .int .i64 i, .int .i64 z, .string nm, x14, x15, x16, x17, x18, x19, x20, x21, x22, x23, x24, x25, x26, x27, x28, x29, x30, x31, x32, x33, x34, x35, x36, x37, x38, x39, x40, x41, x42, x43, x44, x45, x46, x47, x48, x49, x50, x51, x52, x53, x54, x55, x56, x57, x58, x59, x60, x61, x62, x63, x64, x65, x66, x67, x68, x69, x70, x71, x72, x73, x74, x75, x76, x77, x78, x79, x80, x81, x82, x83, x84, x85, x86, x87, x88, x89, x90, x91, x92, x93, x94, x95, x96, x97, x98, x99, x100, x101, x102, x103, x104, x105, x106, x107, x108, x109, x110, x111, x112, x113, x114, x115, x116, x117, x118, x119, x120, x121, x122, x123, x124, x125, x126, x127, x128, x129, x130, x131, x132, x133, x134, x135, x136, x137, x138, x139, x140, x141, x142, x143, x144, x145, x146, x147, x148, x149, x150, x151, x152, x153, x154, x155, x156, x157, x158, x159, x160, x161, x162, x163, x164, x165, x166, x167, x168, x169, x170, x171, x172, x173, x174, x175, x176, x177, x178, x179, x180, x181, x182, x183, x184, x185, x186, x187, x188, x189, x190, x191, x192, x193, x194, x195, x196, x197, x198, x199, x200, x201, x202, x203, x204, x205, x206, x207, x208, x209, x210, x211, x212, x213, x214, x215, x216, x217, x218, x219, x220, x221, x222, x223, x224, x225, x226, x227, x228, x229, x230, x231, x232, x233, x234, x235, x236, x237, x238, x239, x240, x241, x242, x243, x244, x245, x246, x247, x248, x249, x250, x251, x252, x253, x254, x255, x256, x257, x258, x259, x260, x261], []⟩ wr := by
  conv => arg 2; whnf
  obtain ⟨Ws, Ns, now, dA, gA, dc, gn, gc, D, G, hU⟩ := HI.out
  have HU := Lib.hid hU
  rcases Nat.eq_zero_or_pos pa with h0 | h0
  · subst h0
    have HC := Lib.hid (undo_none hb now _ dA dc wr hU.hy.bk)
    clear hU
    go_wp2_with fail
    with_reducible refine (HC.out).mono ?_
    rintro e w' ⟨rfl, rfl⟩
    go_wp2_with fail
    exact Lib.hid ⟨_, _, _, _, _, _, _, _, _, _, HU.out.below (Below.refl _ _)⟩
  · obtain ⟨p, hp⟩ : ∃ p, pa = p + 1 := ⟨pa - 1, by omega⟩
    have hdl : D.length = p + 1 := by rw [← hp]; exact hU.hy.d.len.symm
    obtain ⟨D', s, hD, hd'⟩ := split_last hdl
    subst hD
    have hy0 : HistY wr hb w0.heap.size now dA (p + 1) dc (D' ++ [s]) gA gn gc G := by have := hU.hy; rw [hp] at this; exact this
    obtain ⟨a, b, e1, e2, e3, e4, e5⟩ := hU.hu.last
    rw [hd'] at e1 e2 e3
    have hnw := hU.nw
    rw [hp, e2] at hnw
    injection hnw with hnw
    subst hnw
    have hlen := hU.len
    have hbn := hU.bnd
    obtain ⟨za, _, ha1, ha2⟩ := hU.at_ (j := p) (by omega)
    obtain ⟨zb, _, hb1, hb2⟩ := hU.at_ (j := p + 1) (by omega)
    rw [e1] at ha2
    rw [e2] at hb2
    injection ha2 with ha2
    injection hb2 with hb2
    subst ha2
    have hgb := hU.ul.good HK.out.1 hb1
    have hok := hU.ul.enc (by omega) HK.out.1 HK.out.2.1 HK.out.2.2 hb1 ha1
    rw [← hb2] at hgb hok
    have HC := Lib.hid (undo_any hb w0.heap.size now za.p s dA gA p dc gn gc D' G wr hy0 hgb (hU.ul.good HK.out.1 ha1) hok e5 ⟨by omega, by omega⟩ hU.bel.size)
    have hz1 : IntKind.i64.wrap ((pa : Int) - 1) = (p : Int) := by rw [IntKind.wrap_i64]; omega
    have t0 : ((pa : Int) == 0) = false := by simp; omega
    have hp0 : (0 : Int) ≤ pa := by omega
    have hpL : (pa : Int) < L := by omega
    have HP := Lib.hid hp
    have HE := Lib.hid (And.intro e1 e3)
    clear hU hy0 e1 e2 e3 e4 e5 hgb hok hlen hbn ha1 hb1 hb2 hdl hd' hp
    go_wp2_with fail
    with_reducible refine (HC.out).mono ?_
    clear HC
    rintro e w' ⟨y, A', c', rfl, HH, HZ⟩
    have hV : US w0 w' hb AA NA L ac nc p K0 (i + 1) Ws Ns y dA A' p (gn + 1) c' D' (G ++ [s]) := HU.out.step HZ.out HH.out.1 (by simp) (by have := HP.out; omega) (by rw [HE.out.1, HH.out.2])
    obtain ⟨bq, oq, rfl, q0⟩ := hV.name (j := p + 1) HE.out.2
    rw [← HP.out] at q0
    have HV := Lib.hid hV
    clear hV
    go_wp2_with fail
    exact hN _ _ _ _ _ _ _ _ _ _ _ _ _ _ _ _ _ _ _ _ _ _ _ _ _ _ _ p _ (Lib.hid ⟨_, _, _, _, _, _, _, _, _, _, HV.out⟩)

set_option maxHeartbeats 6000000 in
theorem usRedo_any {x0 x2 x3 x4 x5 x7 x14 x15 x16 x17 x18 x19 x20 x21 x22 x23 x24 x25 x26 x27 x28 x29 x30 x31 x32 x33 x34 x35 x36 x37 x38 x39 x40 x41 x42 x43 x44 x45 x46 x47 x48 x49 x50 x51 x52 x53 x54 x55 x56 x57 x58 x59 x60 x61 x62 x63 x64 x65 x66 x67 x68 x69 x70 x71 x72 x73 x74 x75 x76 x77 x78 x79 x80 x81 x82 x83 x84 x85 x86 x87 x88 x89 x90 x91 x92 x93 x94 x95 x96 x97 x98 x99 x100 x101 x102 x103 x104 x105 x106 x107 x108 x109 x110 x111 x112 x113 x114 x115 x116 x117 x118 x119 x120 x121 x122 x123 x124 x125 x126 x127 x128 x129 x130 x131 x132 x133 x134 x135 x136 x137 x138 x139 x140 x141 x142 x143 x144 x145 x146 x147 x148 x149 x150 x151 x152 x153 x154 x155 x156 x157 x158 x159 x160 x161 x162 x163 x164 x165 x166 x167 x168 x169 x170 x171 x172 x173 x174 x175 x176 x177 x178 x179 x180 x181 x182 x183 x184 x185 x186 x187 x188 x189 x190 x191 x192 x193 x194 x195 x196 x197 x198 x199 x200 x201 x202 x203 x204 x205 x206 x207 x208 x209 x210 x211 x212 x213 x214 x215 x216 x217 x218 x219 x220 x221 x222 x223 x224 x225 x226 x227 x228 x229 x230 x231 x232 x233 x234 x235 x236 x237 x238 x239 x240 x241 x242 x243 x244 x245 x246 x247 x248 x249 x250 x251 x252 x253 x254 x255 x256 x257 x258 x259 x260 x261 : Value} {Q : Exit → Act → World → Prop} {w0 wr : World} {hb : Nat} {AA NA XA : Option Addr} {L ac nc pa xn xc i : Nat} {z : Int} {nm : ByteArray} {K0 : List Kp2} (HI : Hid (USe w0 wr hb AA NA L ac nc pa K0 i)) (HK : Hid (KOk K0)) (hi : i < 120)
    (hN : ∀ (y16 y17 y137 y138 y139 y140 y141 y142 y143 y144 y145 y146 y147 y148 y149 y150 y151 y152 y153 y154 y155 y156 y157 y158 y159 y160 y161 y162 y163 y164 : Value) (pa' : Nat) (w' : World), Hid (USe w0 w' hb AA NA L ac nc pa' K0 (i + 1)) → Q .normal ⟨#[x0, .slice XA xn xc, x2, x3, x4, x5, .pointer (some ⟨hb, 0, none⟩), x7, .slice AA L ac, .slice NA L nc, .int .i64 pa', .int .i64 i, .int .i64 z, .string nm, x14, x15, y16, y17, x18, x19, x20, x21, x22, x23, x24, x25, x26, x27, x28, x29, x30, x31, x32, x33, x34, x35, x36, x37, x38, x39, x40, x41, x42, x43, x44, x45, x46, x47, x48, x49, x50, x51, x52, x53, x54, x55, x56, x57, x58, x59, x60, x61, x62, x63, x64, x65, x66, x67, x68, x69, x70, x71, x72, x73, x74, x75, x76, x77, x78, x79, x80, x81, x82, x83, x84, x85, x86, x87, x88, x89, x90, x91, x92, x93, x94, x95, x96, x97, x98, x99, x100, x101, x102, x103, x104, x105, x106, x107, x108, x109, x110, x111, x112, x113, x114, x115, x116, x117, x118, x119, x120, x121, x122, x123, x124, x125, x126, x127, x128, x129, x130, x131, x132, x133, x134, x135, x136, y137, y138, y139, y140, y141, y142, y143, y144, y145, y146, y147, y148, y149, y150, y151, y152, y153, y154, y155, y156, y157, y158, y159, y160, y161, y162, y163, y164, x165, x166, x167, x168, x169, x170, x171, x172, x173, x174, x175, x176, x177, x178, x179, x180, x181, x182, x183, x184, x185, x186, x187, x188, x189, x190, x191, x192, x193, x194, x195, x196, x197, x198, x199, x200, x201, x202, x203, x204, x205, x206, x207, x208, x209, x210, x211, x212, x213, x214, x215, x216, x217, x218, x219, x220, x221, x222, x223, x224, x225, x226, x227, x228, x229, x230, x231, x232, x233, x234, x235, x236, x237, x238, x239, x240, x241, x242, x243, x244, x245, x246, x247, x248, x249, x250, x251, x252, x253, x254, x255, x256, x257, x258, x259, x260, x261], []⟩ w')
    (hE : ∀ (y16 y17 y137 y138 y139 y140 y141 y142 y143 y144 y145 y146 y147 y148 y149 y150 y151 y152 y153 y154 y155 y156 y157 y158 y159 y160 y161 y162 y163 y164 : Value) (w' : World), Hid (USe w0 w' hb AA NA L ac nc pa K0 (i + 1)) → Q (.exit 1) ⟨#[x0, .slice XA xn xc, x2, x3, x4, x5, .pointer (some ⟨hb, 0, none⟩), x7, .slice AA L ac, .slice NA L nc, .int .i64 pa, .int .i64 i, .int .i64 z, .string nm, x14, x15, y16, y17, x18, x19, x20, x21, x22, x23, x24, x25, x26, x27, x28, x29, x30, x31, x32, x33, x34, x35, x36, x37, x38, x39, x40, x41, x42, x43, x44, x45, x46, x47, x48, x49, x50, x51, x52, x53, x54, x55, x56, x57, x58, x59, x60, x61, x62, x63, x64, x65, x66, x67, x68, x69, x70, x71, x72, x73, x74, x75, x76, x77, x78, x79, x80, x81, x82, x83, x84, x85, x86, x87, x88, x89, x90, x91, x92, x93, x94, x95, x96, x97, x98, x99, x100, x101, x102, x103, x104, x105, x106, x107, x108, x109, x110, x111, x112, x113, x114, x115, x116, x117, x118, x119, x120, x121, x122, x123, x124, x125, x126, x127, x128, x129, x130, x131, x132, x133, x134, x135, x136, y137, y138, y139, y140, y141, y142, y143, y144, y145, y146, y147, y148, y149, y150, y151, y152, y153, y154, y155, y156, y157, y158, y159, y160, y161, y162, y163, y164, x165, x166, x167, x168, x169, x170, x171, x172, x173, x174, x175, x176, x177, x178, x179, x180, x181, x182, x183, x184, x185, x186, x187, x188, x189, x190, x191, x192, x193, x194, x195, x196, x197, x198, x199, x200, x201, x202, x203, x204, x205, x206, x207, x208, x209, x210, x211, x212, x213, x214, x215, x216, x217, x218, x219, x220, x221, x222, x223, x224, x225, x226, x227, x228, x229, x230, x231, x232, x233, x234, x235, x236, x237, x238, x239, x240, x241, x242, x243, x244, x245, x246, x247, x248, x249, x250, x251, x252, x253, x254, x255, x256, x257, x258, x259, x260, x261], []⟩ w')
    : Code.wp Try.prog usRedo Q ⟨#[x0, .slice XA xn xc, x2, x3, x4, x5, .pointer (some ⟨hb, 0, none⟩), x7, .slice AA L ac, .slice NA L nc, .int .i64 pa, .int .i64 i, .int .i64 z, .string nm, x14, x15, x16, x17, x18, x19, x20, x21, x22, x23, x24, x25, x26, x27, x28, x29, x30, x31, x32, x33, x34, x35, x36, x37, x38, x39, x40, x41, x42, x43, x44, x45, x46, x47, x48, x49, x50, x51, x52, x53, x54, x55, x56, x57, x58, x59, x60, x61, x62, x63, x64, x65, x66, x67, x68, x69, x70, x71, x72, x73, x74, x75, x76, x77, x78, x79, x80, x81, x82, x83, x84, x85, x86, x87, x88, x89, x90, x91, x92, x93, x94, x95, x96, x97, x98, x99, x100, x101, x102, x103, x104, x105, x106, x107, x108, x109, x110, x111, x112, x113, x114, x115, x116, x117, x118, x119, x120, x121, x122, x123, x124, x125, x126, x127, x128, x129, x130, x131, x132, x133, x134, x135, x136, x137, x138, x139, x140, x141, x142, x143, x144, x145, x146, x147, x148, x149, x150, x151, x152, x153, x154, x155, x156, x157, x158, x159, x160, x161, x162, x163, x164, x165, x166, x167, x168, x169, x170, x171, x172, x173, x174, x175, x176, x177, x178, x179, x180, x181, x182, x183, x184, x185, x186, x187, x188, x189, x190, x191, x192, x193, x194, x195, x196, x197, x198, x199, x200, x201, x202, x203, x204, x205, x206, x207, x208, x209, x210, x211, x212, x213, x214, x215, x216, x217, x218, x219, x220, x221, x222, x223, x224, x225, x226, x227, x228, x229, x230, x231, x232, x233, x234, x235, x236, x237, x238, x239, x240, x241, x242, x243, x244, x245, x246, x247, x248, x249, x250, x251, x252, x253, x254, x255, x256, x257, x258, x259, x260, x261], []⟩ wr := by
  conv => arg 2; whnf
  obtain ⟨Ws, Ns, now, dA, gA, dc, gn, gc, D, G, hU⟩ := HI.out
  have HU := Lib.hid hU
  rcases Nat.eq_zero_or_pos gn with h0 | h0
  · subst h0
    have HC := Lib.hid (redo_none hb now _ gA gc wr hU.hy.bk)
    have hz1 : IntKind.i64.wrap ((L : Int) - 1) = (pa : Int) := by have := hU.len; have := hU.bnd; rw [IntKind.wrap_i64]; omega
    clear hU
    go_wp2_with fail
    with_reducible refine (HC.out).mono ?_
    rintro e w' ⟨rfl, rfl⟩
    go_wp2_with fail
    exact Lib.hid ⟨_, _, _, _, _, _, _, _, _, _, HU.out.below (Below.refl _ _)⟩
  · obtain ⟨p, hp⟩ : ∃ p, gn = p + 1 := ⟨gn - 1, by omega⟩
    subst hp
    have hgl : G.length = p + 1 := hU.hy.g.len.symm
    obtain ⟨G', s, hG, hg'⟩ := split_last hgl
    subst hG
    have hpd : pa = D.length := hU.hy.d.len
    have hu1 := hU.hu
    rw [List.reverse_append, List.reverse_singleton, ← List.append_assoc] at hu1
    obtain ⟨a, b, e1, e2, e3, e4, e5⟩ := hu1.last
    rw [← hpd] at e1 e2 e3
    have hnw := hU.nw
    rw [e1] at hnw
    injection hnw with hnw
    subst hnw
    have hlen := hU.len
    have hbn := hU.bnd
    obtain ⟨za, _, ha1, ha2⟩ := hU.at_ (j := pa + 1) (by omega)
    obtain ⟨zb, _, hb1, hb2⟩ := hU.at_ (j := pa) (by omega)
    rw [e2] at ha2
    rw [e1] at hb2
    injection ha2 with ha2
    injection hb2 with hb2
    subst ha2
    have hgb := hU.ul.good HK.out.1 hb1
    have hok := hU.ul.enc (by omega) HK.out.1 HK.out.2.1 HK.out.2.2 hb1 ha1
    rw [← hb2] at hgb hok
    have HC := Lib.hid (redo_any hb w0.heap.size now za.p s dA gA pa dc p gc D G' wr hU.hy hgb (hU.ul.good HK.out.1 ha1) hok e4 ⟨by omega, by omega⟩ hU.bel.size)
    have hz0 : IntKind.i64.wrap ((L : Int) - 1) = (L : Int) - 1 := by rw [IntKind.wrap_i64]; omega
    have t0 : ((pa : Int) == (L : Int) - 1) = false := by simp; omega
    obtain ⟨pq, hpq⟩ : ∃ pq, pq = pa + 1 := ⟨_, rfl⟩
    have hz1 : IntKind.i64.wrap ((pa : Int) + 1) = (pq : Int) := by rw [IntKind.wrap_i64]; omega
    have hp0 : (0 : Int) ≤ pq := by omega
    have hpL : (pq : Int) < L := by omega
    have HP := Lib.hid hpq
    have HE := Lib.hid (And.intro e2 e3)
    have HPD := Lib.hid hpd
    clear hU hu1 e1 e2 e3 e4 e5 hgb hok hlen hbn ha1 hb1 hb2 hgl hg' hpq hpd
    go_wp2_with fail
    with_reducible refine (HC.out).mono ?_
    clear HC
    rintro e w' ⟨y, A', c', rfl, HH, HZ⟩
    have hV : US w0 w' hb AA NA L ac nc (pa + 1) K0 (i + 1) Ws Ns y A' gA c' p p (D ++ [s]) G' := HU.out.step HZ.out HH.out.1 (by simp) (by omega) (by rw [HE.out.1, HH.out.2])
    rw [← HP.out] at hV
    obtain ⟨bq, oq, rfl, q0⟩ := hV.name (j := pq) (by rw [HP.out]; exact HE.out.2)
    have HV := Lib.hid hV
    clear hV
    go_wp2_with fail
    exact hN _ _ _ _ _ _ _ _ _ _ _ _ _ _ _ _ _ _ _ _ _ _ _ _ _ _ _ _ _ _ pq _ (Lib.hid ⟨_, _, _, _, _, _, _, _, _, _, HV.out⟩)

/-! ### Xx -/
set_option maxHeartbeats 6000000 in
theorem usTail_any {x0 x2 x3 x4 x5 x7 x14 x15 x16 x17 x18 x19 x20 x21 x22 x23 x24 x25 x26 x27 x28 x29 x30 x31 x32 x33 x34 x35 x36 x37 x38 x39 x40 x41 x42 x43 x44 x45 x46 x47 x48 x49 x50 x51 x52 x53 x54 x55 x56 x57 x58 x59 x60 x61 x62 x63 x64 x65 x66 x67 x68 x69 x70 x71 x72 x73 x74 x75 x76 x77 x78 x79 x80 x81 x82 x83 x84 x85 x86 x87 x88 x89 x90 x91 x92 x93 x94 x95 x96 x97 x98 x99 x100 x101 x102 x103 x104 x105 x106 x107 x108 x109 x110 x111 x112 x113 x114 x115 x116 x117 x118 x119 x120 x121 x122 x123 x124 x125 x126 x127 x128 x129 x130 x131 x132 x133 x134 x135 x136 x137 x138 x139 x140 x141 x142 x143 x144 x145 x146 x147 x148 x149 x150 x151 x152 x153 x154 x155 x156 x157 x158 x159 x160 x161 x162 x163 x164 x165 x166 x167 x168 x169 x170 x171 x172 x173 x174 x175 x176 x177 x178 x179 x180 x181 x182 x183 x184 x185 x186 x187 x188 x189 x190 x191 x192 x193 x194 x195 x196 x197 x198 x199 x200 x201 x202 x203 x204 x205 x206 x207 x208 x209 x210 x211 x212 x213 x214 x215 x216 x217 x218 x219 x220 x221 x222 x223 x224 x225 x226 x227 x228 x229 x230 x231 x232 x233 x234 x235 x236 x237 x238 x239 x240 x241 x242 x243 x244 x245 x246 x247 x248 x249 x250 x251 x252 x253 x254 x255 x256 x257 x258 x259 x260 x261 : Value} {Q : Exit → Act → World → Prop} {w0 wr : World} {hb : Nat} {AA NA XA : Option Addr} {L ac nc pa xn xc i : Nat} {z : Int} {nm : ByteArray} {K0 : List Kp2} (HI : Hid (USe w0 wr hb AA NA L ac nc pa K0 (i + 1))) (HK : Hid (KOk K0))
    (hN : ∀ (y22 y23 y230 y231 y232 y233 y234 y235 y236 y237 y238 y239 y240 y241 y242 y243 y244 y245 y246 y247 y248 y249 y250 y251 y252 y253 y254 y255 y256 y257 y258 y259 y260 : Value) (w' : World), Hid (USe w0 w' hb AA NA L ac nc pa K0 (i + 1)) → Q .normal ⟨#[x0, .slice XA xn xc, x2, x3, x4, x5, .pointer (some ⟨hb, 0, none⟩), x7, .slice AA L ac, .slice NA L nc, .int .i64 pa, .int .i64 i, .int .i64 z, .string nm, x14, x15, x16, x17, x18, x19, x20, x21, y22, y23, x24, x25, x26, x27, x28, x29, x30, x31, x32, x33, x34, x35, x36, x37, x38, x39, x40, x41, x42, x43, x44, x45, x46, x47, x48, x49, x50, x51, x52, x53, x54, x55, x56, x57, x58, x59, x60, x61, x62, x63, x64, x65, x66, x67, x68, x69, x70, x71, x72, x73, x74, x75, x76, x77, x78, x79, x80, x81, x82, x83, x84, x85, x86, x87, x88, x89, x90, x91, x92, x93, x94, x95, x96, x97, x98, x99, x100, x101, x102, x103, x104, x105, x106, x107, x108, x109, x110, x111, x112, x113, x114, x115, x116, x117, x118, x119, x120, x121, x122, x123, x124, x125, x126, x127, x128, x129, x130, x131, x132, x133, x134, x135, x136, x137, x138, x139, x140, x141, x142, x143, x144, x145, x146, x147, x148, x149, x150, x151, x152, x153, x154, x155, x156, x157, x158, x159, x160, x161, x162, x163, x164, x165, x166, x167, x168, x169, x170, x171, x172, x173, x174, x175, x176, x177, x178, x179, x180, x181, x182, x183, x184, x185, x186, x187, x188, x189, x190, x191, x192, x193, x194, x195, x196, x197, x198, x199, x200, x201, x202, x203, x204, x205, x206, x207, x208, x209, x210, x211, x212, x213, x214, x215, x216, x217, x218, x219, x220, x221, x222, x223, x224, x225, x226, x227, x228, x229, y230, y231, y232, y233, y234, y235, y236, y237, y238, y239, y240, y241, y242, y243, y244, y245, y246, y247, y248, y249, y250, y251, y252, y253, y254, y255, y256, y257, y258, y259, y260, x261], []⟩ w')
    : Code.wp Try.prog usTail Q ⟨#[x0, .slice XA xn xc, x2, x3, x4, x5, .pointer (some ⟨hb, 0, none⟩), x7, .slice AA L ac, .slice NA L nc, .int .i64 pa, .int .i64 i, .int .i64 z, .string nm, x14, x15, x16, x17, x18, x19, x20, x21, x22, x23, x24, x25, x26, x27, x28, x29, x30, x31, x32, x33, x34, x35, x36, x37, x38, x39, x40, x41, x42, x43, x44, x45, x46, x47, x48, x49, x50, x51, x52, x53, x54, x55, x56, x57, x58, x59, x60, x61, x62, x63, x64, x65, x66, x67, x68, x69, x70, x71, x72, x73, x74, x75, x76, x77, x78, x79, x80, x81, x82, x83, x84, x85, x86, x87, x88, x89, x90, x91, x92, x93, x94, x95, x96, x97, x98, x99, x100, x101, x102, x103, x104, x105, x106, x107, x108, x109, x110, x111, x112, x113, x114, x115, x116, x117, x118, x119, x120, x121, x122, x123, x124, x125, x126, x127, x128, x129, x130, x131, x132, x133, x134, x135, x136, x137, x138, x139, x140, x141, x142, x143, x144, x145, x146, x147, x148, x149, x150, x151, x152, x153, x154, x155, x156, x157, x158, x159, x160, x161, x162, x163, x164, x165, x166, x167, x168, x169, x170, x171, x172, x173, x174, x175, x176, x177, x178, x179, x180, x181, x182, x183, x184, x185, x186, x187, x188, x189, x190, x191, x192, x193, x194, x195, x196, x197, x198, x199, x200, x201, x202, x203, x204, x205, x206, x207, x208, x209, x210, x211, x212, x213, x214, x215, x216, x217, x218, x219, x220, x221, x222, x223, x224, x225, x226, x227, x228, x229, x230, x231, x232, x233, x234, x235, x236, x237, x238, x239, x240, x241, x242, x243, x244, x245, x246, x247, x248, x249, x250, x251, x252, x253, x254, x255, x256, x257, x258, x259, x260, x261], []⟩ wr := by
  conv => arg 2; whnf
  obtain ⟨Ws, Ns, now, dA, gA, dc, gn, gc, D, G, hU⟩ := HI.out
  have HU := Lib.hid hU
  have hlen := hU.len
  have hbn := hU.bnd
  have hdl := hU.hy.d.len
  have hgl := hU.hy.g.len
  have hnl := hU.nlen
  have HC := Lib.hid (names_any hb now dA gA pa dc gn gc _ D G wr hU.hy ⟨by omega, by omega⟩)
  obtain ⟨zb, hz, hb1, hb2⟩ := hU.at_ (j := pa) (by omega)
  rw [hU.nw] at hb2
  injection hb2 with hb2
  have hgb := hU.ul.good HK.out.1 hb1
  obtain ⟨b, o, hA, hbw, q0, q1, q2⟩ := hU.world hz
  have hca := hU.ul.nown.caps
  have hnn : 0 < L := by omega
  obtain ⟨nb, no, hNA, nb1, nb2, nb3⟩ := hU.ul.nown.rdy.2 hnn
  have hnm := hU.hu.names
  have hd1 : (Ns.drop 1).take pa = D.map StM.nm := by rw [hnm, List.map_append, List.take_append_of_le_length (by rw [List.length_map]; omega), List.take_of_length_le (by rw [List.length_map]; omega)]
  have hd2 : Ns.drop (pa + 1) = G.reverse.map StM.nm := by rw [Nat.add_comm, ← List.drop_drop, hnm, List.map_append, List.drop_append_of_le_length (by rw [List.length_map]; omega), List.drop_of_length_le (by rw [List.length_map]; omega), List.nil_append]
  subst hA hNA
  have HC2 : Hid (∀ wz, Below wr.heap.size wr wz → Calls Try.prog 86 #[.pointer (some ⟨hb, 0, none⟩)] wz fun e w' => ∃ y : Wd, e = .returned (.agg #[.slice y.kA y.kn y.kc, .slice y.gA y.gn y.gc, .slice y.iA y.im y.ic]) ∧ Hid (WdY w' 0 y ∧ y.p = now.p) ∧ Below wz.heap.size wz w') := Lib.hid (fun wz hz => now_any hb now _ _ wz (hU.hy.bk.far hz) (hU.hy.x.keep (Kx.of_below (B := 0) (F := []) hz) (by simp) (by simp) (by simp) (by simp) (by simp)) (by rw [hb2]; exact hgb.sz))
  have HC3 : Hid (∀ wz, Below wr.heap.size wr wz → ∀ y : Wd, WdY wz 0 y → y.p = now.p → Calls Try.prog 38 #[.agg #[.slice y.kA y.kn y.kc, .slice y.gA y.gn y.gc, .slice y.iA y.im y.ic], .agg #[.slice zb.kA zb.kn zb.kc, .slice zb.gA zb.gn zb.gc, .slice zb.iA zb.im zb.ic]] wz fun e w' => e = .returned (.bool true) ∧ Below wz.heap.size wz w') := Lib.hid (fun wz hz y hy hp => by
    have h1 := wsame_any hy.ok_ ((hU.ul.y zb hb1).1.ok_.below hz)
    rw [decide_eq_true (by rw [hp]; exact hb2)] at h1; exact h1)
  have HQ1 : Hid (∀ wz, Below wr.heap.size wr wz → Rd wz wz.heap.size 1 (some ⟨nb, no + 1, none⟩) pa (strV ((Ns.drop 1).take pa))) := Lib.hid (fun wz hz => by
    refine ⟨by unfold strV; rw [List.length_map, List.length_take, List.length_drop]; omega, fun _ => ⟨nb, no + 1, rfl, by have := hz.size; omega, fun j u hu => ?_⟩⟩
    have hj := (List.getElem?_eq_some_iff.1 hu).1
    refine (World.cell?_of_block (w := wr) (hz.block nb nb1)).trans ?_
    rw [Nat.add_assoc]
    refine nb3 (1 + j) u ?_
    unfold strV at hu ⊢
    rw [List.getElem?_map] at hu ⊢
    rw [List.getElem?_take] at hu
    split at hu
    · rwa [List.getElem?_drop] at hu
    · simp at hu)
  have HQ2 : Hid (∀ wz, Below wr.heap.size wr wz → ∀ A2, (pa + 1 < nc → A2 = some ⟨nb, no + (pa + 1), none⟩) → Rd wz wz.heap.size 1 A2 (L - (pa + 1)) (strV (Ns.drop (pa + 1)))) := Lib.hid (fun wz hz A2 hA2 => by
    refine ⟨by unfold strV; rw [List.length_map, List.length_drop]; omega, fun h0 => ⟨nb, no + (pa + 1), hA2 (by omega), by have := hz.size; omega, fun j u hu => ?_⟩⟩
    refine (World.cell?_of_block (w := wr) (hz.block nb nb1)).trans ?_
    rw [Nat.add_assoc]
    refine nb3 (pa + 1 + j) u ?_
    unfold strV at hu ⊢
    rw [List.getElem?_map] at hu ⊢
    rwa [List.getElem?_drop] at hu)
  rw [hd1] at HQ1
  rw [hd2] at HQ2
  have hpz : IntKind.i64.wrap ((pa : Int) + 1) = (pa : Int) + 1 := by rw [IntKind.wrap_i64]; omega
  have hpa : (pa : Int) < L := by omega
  have hpa0 : (0 : Int) ≤ pa := by omega
  have hgL : L - (pa + 1) = gn := by omega
  rw [hgL] at HQ2
  have HDG := Lib.hid (And.intro hdl hgl)
  have HBN := Lib.hid (And.intro hbn hgL)
  have HLN := Lib.hid hlen
  have hnc1 : L ≤ nc := hca.1
  have hnc2 : pa + 1 ≤ nc := by omega
  have hnc3 : pa + 1 ≤ L := by omega
  have HBW := Lib.hid (And.intro hbw nb1)
  clear hU hlen hbn hdl hgl hnl hz hb1 hb2 hgb hca nb2 nb3 hnm hd1 hd2 hgL nb1 hbw
  go_wp2_with fail
  with_reducible refine (HC.out).mono ?_
  clear HC
  rintro e w2 ⟨A1, c1, A2, c2, rfl, HNM, hb2⟩
  have HB2 := Lib.hid hb2
  have m0 : w2.cell? ⟨b, o + pa * 3, none⟩ = some (.slice zb.kA zb.kn zb.kc) := (World.cell?_of_block (w := wr) (hb2.block b HBW.out.1)).trans q0
  have m1 : w2.cell? ⟨b, o + pa * 3 + 1, none⟩ = some (.slice zb.gA zb.gn zb.gc) := (World.cell?_of_block (w := wr) (hb2.block b HBW.out.1)).trans q1
  have m2 : w2.cell? ⟨b, o + pa * 3 + 2, none⟩ = some (.slice zb.iA zb.im zb.ic) := (World.cell?_of_block (w := wr) (hb2.block b HBW.out.1)).trans q2
  clear hb2 q0 q1 q2
  have s5 : w2.cell? ⟨b, o + pa * 3, none⟩ = some (.slice zb.kA zb.kn zb.kc) ∧ w2.cell? ⟨b, o + pa * 3 + 1, none⟩ = some (.slice zb.gA zb.gn zb.gc) ∧ w2.cell? ⟨b, o + pa * 3 + 2, none⟩ = some (.slice zb.iA zb.im zb.ic) := ⟨m0, m1, m2⟩
  have hbw2 : b < w2.heap.size := by have := HBW.out.1; have := HB2.out.size; omega
  have HS5 : Hid (∀ wz, Below w2.heap.size w2 wz → wz.cell? ⟨b, o + pa * 3, none⟩ = some (.slice zb.kA zb.kn zb.kc) ∧ wz.cell? ⟨b, o + pa * 3 + 1, none⟩ = some (.slice zb.gA zb.gn zb.gc) ∧ wz.cell? ⟨b, o + pa * 3 + 2, none⟩ = some (.slice zb.iA zb.im zb.ic)) := Lib.hid (fun wz hz => ⟨(World.cell?_of_block (w := w2) (hz.block b hbw2)).trans s5.1, (World.cell?_of_block (w := w2) (hz.block b hbw2)).trans s5.2.1, (World.cell?_of_block (w := w2) (hz.block b hbw2)).trans s5.2.2⟩)
  have HC2' : Hid (∀ wz, Below w2.heap.size w2 wz → Calls Try.prog 86 #[.pointer (some ⟨hb, 0, none⟩)] wz fun e w' => ∃ y : Wd, e = .returned (.agg #[.slice y.kA y.kn y.kc, .slice y.gA y.gn y.gc, .slice y.iA y.im y.ic]) ∧ Hid (WdY w' 0 y ∧ y.p = now.p) ∧ Below wz.heap.size wz w') := Lib.hid fun wz hz => HC2.out wz (HB2.out.trans (hz.mono HB2.out.size))
  have HC3' : Hid (∀ wz, Below w2.heap.size w2 wz → ∀ y : Wd, WdY wz 0 y → y.p = now.p → Calls Try.prog 38 #[.agg #[.slice y.kA y.kn y.kc, .slice y.gA y.gn y.gc, .slice y.iA y.im y.ic], .agg #[.slice zb.kA zb.kn zb.kc, .slice zb.gA zb.gn zb.gc, .slice zb.iA zb.im zb.ic]] wz fun e w' => e = .returned (.bool true) ∧ Below wz.heap.size wz w') := Lib.hid fun wz hz => HC3.out wz (HB2.out.trans (hz.mono HB2.out.size))
  obtain ⟨A3, hA3⟩ : ∃ A3 : Addr, (if nc = 1 then (some ⟨nb, no, none⟩ : Option Addr) else some ⟨nb, no + 1, none⟩) = some A3 := by split <;> exact ⟨_, rfl⟩
  obtain ⟨A4, hA4⟩ : ∃ A4 : Addr, (if nc = pa + 1 then (some ⟨nb, no, none⟩ : Option Addr) else some ⟨nb, no + (pa + 1), none⟩) = some A4 := by split <;> exact ⟨_, rfl⟩
  have HE1 : Hid (∀ wz, Below w2.heap.size w2 wz → Calls Try.prog 93 #[.slice A1 pa c1, .slice (some A3) pa (nc - 1)] wz fun e w' => e = .returned (.bool true) ∧ Below wz.heap.size wz w') := Lib.hid (fun wz hz => by
    have hd := HDG.out.1
    have hr1 : Rd wz wz.heap.size 1 A1 pa (strV (D.map StM.nm)) := (HNM.out.1.below hz).more hz.size
    have hr2 : Rd wz wz.heap.size 1 (some A3) pa (strV (D.map StM.nm)) := by
      rcases Nat.eq_zero_or_pos pa with h0 | h0
      · have : D.map StM.nm = [] := List.eq_nil_of_length_eq_zero (by rw [List.length_map]; omega)
        rw [h0, this]; exact Rd.nil_ _
      · have := HQ1.out wz (HB2.out.trans (hz.mono HB2.out.size))
        rw [if_neg (by omega)] at hA3
        rw [← hA3]; exact this
    have h1 := equalSS_any A1 (some A3) pa c1 pa (nc - 1) wz.heap.size (D.map StM.nm) (D.map StM.nm) wz (by rw [List.length_map]; exact hd) (by rw [List.length_map]; exact hd) (by have := HBN.out.1; omega) hr1 hr2
    rw [decide_eq_true rfl] at h1
    exact h1.mono fun e w' ⟨a1, m, a2⟩ => ⟨a1, by rw [← a2]; exact below_drewN (Below.refl _ _) m⟩)
  have HE2 : Hid (∀ wz, Below w2.heap.size w2 wz → Calls Try.prog 93 #[.slice A2 gn c2, .slice (some A4) gn (nc - (pa + 1))] wz fun e w' => e = .returned (.bool true) ∧ Below wz.heap.size wz w') := Lib.hid (fun wz hz => by
    have hd := HDG.out.2
    have hl := HLN.out
    have hr1 : Rd wz wz.heap.size 1 A2 gn (strV (G.reverse.map StM.nm)) := (HNM.out.2.below hz).more hz.size
    have hr2 : Rd wz wz.heap.size 1 (some A4) gn (strV (G.reverse.map StM.nm)) := HQ2.out wz (HB2.out.trans (hz.mono HB2.out.size)) (some A4) fun h => by rw [if_neg (by omega)] at hA4; exact hA4.symm
    have h1 := equalSS_any A2 (some A4) gn c2 gn (nc - (pa + 1)) wz.heap.size (G.reverse.map StM.nm) (G.reverse.map StM.nm) wz (by rw [List.length_map, List.length_reverse]; exact hd) (by rw [List.length_map, List.length_reverse]; exact hd) (by have := HBN.out.1; omega) hr1 hr2
    rw [decide_eq_true rfl] at h1
    exact h1.mono fun e w' ⟨a1, m, a2⟩ => ⟨a1, by rw [← a2]; exact below_drewN (Below.refl _ _) m⟩)
  have hgl2 : L - (pa + 1) = gn := HBN.out.2
  have hncz : (pa : Int) + 1 ≤ L := by omega
  have hncz0 : (0 : Int) ≤ (pa : Int) + 1 := by omega
  have hncz1 : (1 : Int) ≤ (pa : Int) + 1 := by omega
  have hncz3 : (pa : Int) + 1 ≤ nc := by omega
  have hncz2 : (L : Int) ≤ nc := by omega
  clear m0 m1 m2
  clear HC2 HC3
  go_upto_if 260 with fail
  go_cut [260] from 235 to 259 (fun bv wx => bv = .bool false ∧ Hid (Below wr.heap.size wr wx))
  case first =>
    refine wp_region_noPanic ?_
    refine wp_region_H (S := fun wz => wz.cell? ⟨b, o + pa * 3, none⟩ = some (.slice zb.kA zb.kn zb.kc) ∧ wz.cell? ⟨b, o + pa * 3 + 1, none⟩ = some (.slice zb.gA zb.gn zb.gc) ∧ wz.cell? ⟨b, o + pa * 3 + 2, none⟩ = some (.slice zb.iA zb.im zb.ic)) (by kernel_rfl) ?_
    refine wpAnyH_val (i := 0) (v := .pointer (some ⟨hb, 0, none⟩)) (d := some 235) rfl rfl (by kernel_rfl) (by kernel_rfl) (by kernel_rfl) (fun _ _ _ h => h) (Or.inl ⟨by rfl, fun w hS => by (obtain ⟨h0, h1, h2⟩ := hS; go_simp)⟩) s5 ?_
    (try simp only [Act.put, List.setIfInBounds_toArray, List.set_cons_zero, List.set_cons_succ])
    refine wpAnyH_val (i := 2) (v := .slice (some ⟨b, o, none⟩) L ac) (d := some 237) rfl rfl (by kernel_rfl) (by kernel_rfl) (by kernel_rfl) (fun _ _ _ h => h) (Or.inl ⟨by rfl, fun w hS => by (obtain ⟨h0, h1, h2⟩ := hS; go_simp)⟩) s5 ?_
    (try simp only [Act.put, List.setIfInBounds_toArray, List.set_cons_zero, List.set_cons_succ])
    refine wpAnyH_val (i := 3) (v := .int .i64 pa) (d := some 238) rfl rfl (by kernel_rfl) (by kernel_rfl) (by kernel_rfl) (fun _ _ _ h => h) (Or.inl ⟨by rfl, fun w hS => by (obtain ⟨h0, h1, h2⟩ := hS; go_simp)⟩) s5 ?_
    (try simp only [Act.put, List.setIfInBounds_toArray, List.set_cons_zero, List.set_cons_succ])
    refine wpAnyH_val (i := 4) (v := .pointer (some ⟨b, o + pa * 3, none⟩)) (d := some 239) rfl rfl (by kernel_rfl) (by kernel_rfl) (by kernel_rfl) (fun _ _ _ h => h) (Or.inl ⟨by rfl, fun w hS => by (obtain ⟨h0, h1, h2⟩ := hS; go_simp)⟩) s5 ?_
    (try simp only [Act.put, List.setIfInBounds_toArray, List.set_cons_zero, List.set_cons_succ])
    refine wpAnyH_val (i := 5) (v := .agg #[.slice zb.kA zb.kn zb.kc, .slice zb.gA zb.gn zb.gc, .slice zb.iA zb.im zb.ic]) (d := some 240) rfl rfl (by kernel_rfl) (by kernel_rfl) (by kernel_rfl) (fun _ _ _ h => h) (Or.inl ⟨by rfl, fun w hS => by (obtain ⟨h0, h1, h2⟩ := hS; go_simp)⟩) s5 ?_
    (try simp only [Act.put, List.setIfInBounds_toArray, List.set_cons_zero, List.set_cons_succ])
    refine wpAnyH_oneW (i := 1) rfl (by kernel_rfl) (by rfl) ?_
    go_simp
    go_at_call 86
    (with_reducible refine (HC2'.out _ ?hb).mono ?_)
    case hb => (repeat' first | exact Below.refl _ _ | refine Below.drew ?_)
    rintro e w3 ⟨y, rfl, HY3, hb3⟩
    have hB3 : Below w2.heap.size w2 w3 := Below.tr (by repeat' first | exact Below.refl _ _ | refine Below.drew ?_) hb3
    have s5 := HS5.out _ hB3
    refine And.intro s5 ?_
    (try simp only [Act.put, List.setIfInBounds_toArray, List.set_cons_zero, List.set_cons_succ])
    refine wpAnyH_oneW (i := 6) rfl (by kernel_rfl) (by rfl) ?_
    go_simp
    go_at_call 38
    (with_reducible refine (HC3'.out _ ?hb y ?hy HY3.out.2).mono ?_)
    case hb => (repeat' first | exact hB3 | refine Below.drew ?_)
    case hy => exact HY3.out.1
    rintro e w4 ⟨rfl, hb4⟩
    have hB4 : Below w2.heap.size w2 w4 := Below.tr (by repeat' first | exact hB3 | refine Below.drew ?_) hb4
    have s6 := HS5.out _ hB4
    refine And.intro s6 ?_
    (try simp only [Act.put, List.setIfInBounds_toArray, List.set_cons_zero, List.set_cons_succ])
    refine wpAnyH_val (i := 7) (v := .bool false) (d := some 242) rfl rfl (by kernel_rfl) (by kernel_rfl) (by kernel_rfl) (fun _ _ _ h => h) (Or.inl ⟨by rfl, fun w hS => by (obtain ⟨h0, h1, h2⟩ := hS; go_simp)⟩) s6 ?_
    (try simp only [Act.put, List.setIfInBounds_toArray, List.set_cons_zero, List.set_cons_succ])
    refine wpAnyH_val (i := 8) (v := .bool false) (d := some 243) rfl rfl (by kernel_rfl) (by kernel_rfl) (by kernel_rfl) (fun _ _ _ h => h) (Or.inl ⟨by rfl, fun w hS => by (obtain ⟨h0, h1, h2⟩ := hS; go_simp)⟩) s6 ?_
    (try simp only [Act.put, List.setIfInBounds_toArray, List.set_cons_zero, List.set_cons_succ])
    refine wpAnyH_val (i := 9) (v := .slice A1 pa c1) (d := some 244) rfl rfl (by kernel_rfl) (by kernel_rfl) (by kernel_rfl) (fun _ _ _ h => h) (Or.inl ⟨by rfl, fun w hS => by (obtain ⟨h0, h1, h2⟩ := hS; go_simp)⟩) s6 ?_
    (try simp only [Act.put, List.setIfInBounds_toArray, List.set_cons_zero, List.set_cons_succ])
    refine wpAnyH_val (i := 10) (v := .slice (some ⟨nb, no, none⟩) L nc) (d := some 245) rfl rfl (by kernel_rfl) (by kernel_rfl) (by kernel_rfl) (fun _ _ _ h => h) (Or.inl ⟨by rfl, fun w hS => by (obtain ⟨h0, h1, h2⟩ := hS; go_simp)⟩) s6 ?_
    (try simp only [Act.put, List.setIfInBounds_toArray, List.set_cons_zero, List.set_cons_succ])
    refine wpAnyH_val (i := 11) (v := .int .i64 pa) (d := some 246) rfl rfl (by kernel_rfl) (by kernel_rfl) (by kernel_rfl) (fun _ _ _ h => h) (Or.inl ⟨by rfl, fun w hS => by (obtain ⟨h0, h1, h2⟩ := hS; go_simp)⟩) s6 ?_
    (try simp only [Act.put, List.setIfInBounds_toArray, List.set_cons_zero, List.set_cons_succ])
    refine wpAnyH_val (i := 12) (v := .int .i64 ((pa : Int) + 1)) (d := some 247) rfl rfl (by kernel_rfl) (by kernel_rfl) (by kernel_rfl) (fun _ _ _ h => h) (Or.inl ⟨by rfl, fun w hS => by (obtain ⟨h0, h1, h2⟩ := hS; go_simp)⟩) s6 ?_
    (try simp only [Act.put, List.setIfInBounds_toArray, List.set_cons_zero, List.set_cons_succ])
    refine wpAnyH_val (i := 13) (v := .slice (some A3) pa (nc - 1)) (d := some 248) rfl rfl (by kernel_rfl) (by kernel_rfl) (by kernel_rfl) (fun _ _ _ h => h) (Or.inl ⟨by rfl, fun w hS => by (obtain ⟨h0, h1, h2⟩ := hS; go_simp)⟩) s6 ?_
    (try simp only [Act.put, List.setIfInBounds_toArray, List.set_cons_zero, List.set_cons_succ])
    refine wpAnyH_oneW (i := 14) rfl (by kernel_rfl) (by rfl) ?_
    go_simp
    go_at_call 93
    (with_reducible refine (HE1.out _ ?hb).mono ?_)
    case hb => (repeat' first | exact Below.refl _ _ | exact hB4 | refine Below.drew ?_)
    rintro e w5 ⟨rfl, hb5⟩
    have hB5 : Below w2.heap.size w2 w5 := Below.tr (by repeat' first | exact Below.refl _ _ | exact hB4 | refine Below.drew ?_) hb5
    have s7 := HS5.out _ hB5
    refine And.intro s7 ?_
    (try simp only [Act.put, List.setIfInBounds_toArray, List.set_cons_zero, List.set_cons_succ])
    refine wpAnyH_val (i := 15) (v := .bool false) (d := some 250) rfl rfl (by kernel_rfl) (by kernel_rfl) (by kernel_rfl) (fun _ _ _ h => h) (Or.inl ⟨by rfl, fun w hS => by (obtain ⟨h0, h1, h2⟩ := hS; go_simp)⟩) s7 ?_
    (try simp only [Act.put, List.setIfInBounds_toArray, List.set_cons_zero, List.set_cons_succ])
    refine wpAnyH_val (i := 16) (v := .bool false) (d := some 251) rfl rfl (by kernel_rfl) (by kernel_rfl) (by kernel_rfl) (fun _ _ _ h => h) (Or.inl ⟨by rfl, fun w hS => by (obtain ⟨h0, h1, h2⟩ := hS; go_simp)⟩) s7 ?_
    (try simp only [Act.put, List.setIfInBounds_toArray, List.set_cons_zero, List.set_cons_succ])
    refine wpAnyH_val (i := 17) (v := .bool false) (d := some 252) rfl rfl (by kernel_rfl) (by kernel_rfl) (by kernel_rfl) (fun _ _ _ h => h) (Or.inl ⟨by rfl, fun w hS => by (obtain ⟨h0, h1, h2⟩ := hS; go_simp)⟩) s7 ?_
    (try simp only [Act.put, List.setIfInBounds_toArray, List.set_cons_zero, List.set_cons_succ])
    refine wpAnyH_val (i := 18) (v := .slice A2 gn c2) (d := some 253) rfl rfl (by kernel_rfl) (by kernel_rfl) (by kernel_rfl) (fun _ _ _ h => h) (Or.inl ⟨by rfl, fun w hS => by (obtain ⟨h0, h1, h2⟩ := hS; go_simp)⟩) s7 ?_
    (try simp only [Act.put, List.setIfInBounds_toArray, List.set_cons_zero, List.set_cons_succ])
    refine wpAnyH_val (i := 19) (v := .slice (some ⟨nb, no, none⟩) L nc) (d := some 254) rfl rfl (by kernel_rfl) (by kernel_rfl) (by kernel_rfl) (fun _ _ _ h => h) (Or.inl ⟨by rfl, fun w hS => by (obtain ⟨h0, h1, h2⟩ := hS; go_simp)⟩) s7 ?_
    (try simp only [Act.put, List.setIfInBounds_toArray, List.set_cons_zero, List.set_cons_succ])
    refine wpAnyH_val (i := 20) (v := .int .i64 pa) (d := some 255) rfl rfl (by kernel_rfl) (by kernel_rfl) (by kernel_rfl) (fun _ _ _ h => h) (Or.inl ⟨by rfl, fun w hS => by (obtain ⟨h0, h1, h2⟩ := hS; go_simp)⟩) s7 ?_
    (try simp only [Act.put, List.setIfInBounds_toArray, List.set_cons_zero, List.set_cons_succ])
    refine wpAnyH_val (i := 21) (v := .int .i64 ((pa : Int) + 1)) (d := some 256) rfl rfl (by kernel_rfl) (by kernel_rfl) (by kernel_rfl) (fun _ _ _ h => h) (Or.inl ⟨by rfl, fun w hS => by (obtain ⟨h0, h1, h2⟩ := hS; go_simp)⟩) s7 ?_
    (try simp only [Act.put, List.setIfInBounds_toArray, List.set_cons_zero, List.set_cons_succ])
    refine wpAnyH_val (i := 22) (v := .slice (some A4) gn (nc - (pa + 1))) (d := some 257) rfl rfl (by kernel_rfl) (by kernel_rfl) (by kernel_rfl) (fun _ _ _ h => h) (Or.inl ⟨by rfl, fun w hS => by (obtain ⟨h0, h1, h2⟩ := hS; go_simp)⟩) s7 ?_
    (try simp only [Act.put, List.setIfInBounds_toArray, List.set_cons_zero, List.set_cons_succ])
    refine wpAnyH_oneW (i := 23) rfl (by kernel_rfl) (by rfl) ?_
    go_simp
    go_at_call 93
    (with_reducible refine (HE2.out _ ?hb).mono ?_)
    case hb => (repeat' first | exact Below.refl _ _ | exact hB5 | refine Below.drew ?_)
    rintro e w6 ⟨rfl, hb6⟩
    have hB6 : Below w2.heap.size w2 w6 := Below.tr (by repeat' first | exact Below.refl _ _ | exact hB5 | refine Below.drew ?_) hb6
    have s8 := HS5.out _ hB6
    refine And.intro s8 ?_
    (try simp only [Act.put, List.setIfInBounds_toArray, List.set_cons_zero, List.set_cons_succ])
    refine wpAnyH_val (i := 24) (v := .bool false) (d := some 259) rfl rfl (by kernel_rfl) (by kernel_rfl) (by kernel_rfl) (fun _ _ _ h => h) (Or.inl ⟨by rfl, fun w hS => by (obtain ⟨h0, h1, h2⟩ := hS; go_simp)⟩) s8 ?_
    (try simp only [Act.put, List.setIfInBounds_toArray, List.set_cons_zero, List.set_cons_succ])
    refine wpAnyH_val (i := 25) (v := .bool false) (d := some 260) rfl rfl (by kernel_rfl) (by kernel_rfl) (by kernel_rfl) (fun _ _ _ h => h) (Or.inl ⟨by rfl, fun w hS => by (obtain ⟨h0, h1, h2⟩ := hS; go_simp)⟩) s8 ?_
    (try simp only [Act.put, List.setIfInBounds_toArray, List.set_cons_zero, List.set_cons_succ])
    refine wpAnyH_done (by kernel_rfl) ?_ _
    refine NoPanic.normal ?_
    go_wp2_with fail
    go_meet
    case rel => exact ⟨rfl, Lib.hid (HB2.out.trans (hB6.mono HB2.out.size))⟩
  case rest =>
    obtain ⟨rfl, HB9⟩ := hcut
    go_wp2_with fail
    exact Lib.hid ⟨_, _, _, _, _, _, _, _, _, _, HU.out.quiet HB9.out⟩

/-! ### Xu -/
theorem res_c1 {fn : Func} {p : Tmp} {ty : TypeId} (h : fn.results = #[.cell p ty]) (tmps : Array Value) (P : Program) (w : World) :
    (results fn tmps).run P w = ((asAddr (tmps.getD p undef)).run P w).andThen fun a w₁ => (loadVar ty a).run P w₁ := by
  simp only [results, h]
  simp [Sem.run_bind, Result.andThen]

set_option maxHeartbeats 800000 in
theorem mkField_any (nm : ByteArray) (b l : Int) (w : World) : Calls Try.prog 167 #[.string nm, .int .i64 b, .int .i64 l] w fun e w' => e = .returned (.agg #[.string nm, .int .i64 b, .int .i64 l]) ∧ Below w.heap.size w w' := by
  have hk := Bk.new w 66 #[.string ByteArray.empty, .int .i64 0, .int .i64 0]
  have q0 := hk.cell 0
  have q1 := hk.cell 1
  have q2 := hk.cell 2
  have g0 := hk.frozen 0
  have g1 := hk.frozen 1
  have g2 := hk.frozen 2
  simp only [List.getElem?_toArray, List.getElem?_cons_zero, List.getElem?_cons_succ] at q0 q1 q2
  clear hk
  go_enter Try.func167, Try.ntmps167
  go_wp2_with fail
  (try simp only [Exit.inBlock, Exit.then])
  refine bodyPost_ret (v := .agg #[.string nm, .int .i64 b, .int .i64 l]) ?_ rfl ⟨rfl, ?_⟩
  · rw [res_c1 rfl]
    go_simp
  · exact (Below.refl _ w).alloc (Nat.le_refl _) _

theorem and01 : (bits BinOp.and IntKind.i64 0 1 == 1) = false := by decide +kernel
theorem and02 : (bits BinOp.and IntKind.i64 0 2 == 2) = false := by decide +kernel
theorem and04 : (bits BinOp.and IntKind.i64 0 4 == 4) = false := by decide +kernel
def k0f : List Fd := [⟨⟨#[120]⟩, 8, (-100)⟩, ⟨⟨#[121]⟩, 8, (-100)⟩]
def k0n : ByteArray := ⟨#[115, 112, 111, 116]⟩
theorem k0_check : wcheckF (⟨[(k0n, k0f)], [0], []⟩ : Wv Kp2) = 0 := by decide +kernel

set_option maxHeartbeats 1600000 in
theorem kinds0_any (w : World) : Calls Try.prog 96 #[.int .i64 0] w fun e w' => ∃ g ks, e = .returned (.slice (some ⟨g, 0, none⟩) 1 1) ∧ Hid (KsY w' 0 (some ⟨g, 0, none⟩) 1 1 ks ∧ ks.map Kd.p = [(k0n, k0f)]) ∧ Below w.heap.size w w' := by
  have HF := Lib.hid mkField_any
  have t1 := and01
  have t2 := and02
  have t3 := and04
  go_enter Try.func96, Try.ntmps96
  go_wp2_with fail
  refine (HF.out ⟨#[120]⟩ 8 (-100) _).mono ?_
  rintro e w1 ⟨rfl, hb1⟩
  have HB1 := Lib.hid hb1
  clear hb1
  go_wp2_with fail
  refine (HF.out ⟨#[121]⟩ 8 (-100) _).mono ?_
  rintro e w2 ⟨rfl, hb2⟩
  have HB2 := Lib.hid (HB1.out.trans (hb2.mono HB1.out.size))
  clear hb2 HB1
  go_wp2_with fail
  go_ret
  have hk1 : Bk ((w2.alloc (.cells #[.string ⟨#[120]⟩, .int .i64 8, .int .i64 (-100), .string ⟨#[121]⟩, .int .i64 8, .int .i64 (-100)] 66)).alloc (.cells #[.string ⟨#[115, 112, 111, 116]⟩, .slice (some ⟨w2.heap.size, 0, none⟩) 2 2] 63)) w2.heap.size 66 (fdCs k0f).toArray := (Bk.new _ _ _).alloc _
  have hk2 : Bk ((w2.alloc (.cells #[.string ⟨#[120]⟩, .int .i64 8, .int .i64 (-100), .string ⟨#[121]⟩, .int .i64 8, .int .i64 (-100)] 66)).alloc (.cells #[.string ⟨#[115, 112, 111, 116]⟩, .slice (some ⟨w2.heap.size, 0, none⟩) 2 2] 63)) (w2.heap.size + 1) 63 (kdCs [⟨k0n, some ⟨w2.heap.size, 0, none⟩, 2, 2, k0f⟩]).toArray := Bk.two _ _ _ _
  refine ⟨w2.heap.size + 1, [⟨k0n, some ⟨w2.heap.size, 0, none⟩, 2, 2, k0f⟩], rfl, Lib.hid ⟨⟨.of_bk hk2 rfl (fun j u hu => by simpa using hu), rfl, Nat.le_refl _, by omega, fun k hk => ?_⟩, rfl⟩, ?_⟩
  · rw [List.mem_singleton.1 hk]
    exact ⟨.of_bk hk1 rfl (fun j u hu => by simpa using hu), rfl, Nat.le_refl _, by show (2 : Nat) ≤ _; omega⟩
  · exact (HB2.out.alloc HB2.out.size _).alloc (by have := HB2.out.size; simp; omega) _

theorem k1_check : wcheckF (⟨[(k0n, k0f)], [], []⟩ : Wv Kp2) = 0 := by decide +kernel
theorem k2_check : wcheckF (⟨[(k0n, k0f)], [1], []⟩ : Wv Kp2) = 0 := by decide +kernel
theorem good_of {p : Wv Kp2} (h : wcheckF p = 0) : GoodW p := by
  obtain ⟨a, b⟩ := vw_of h
  exact goodW_of a b
theorem GsY.nil_ (w : World) : GsY w 0 none 0 0 [] := ⟨RdY.nil_ _, rfl, Nat.le_refl _, by omega, fun g hg => by cases hg⟩
theorem IsY.nil_ (w : World) : IsY w 0 none 0 0 [] := ⟨RdY.nil_ _, rfl, Nat.le_refl _, by omega, fun g hg => by cases hg⟩

set_option maxHeartbeats 8000000 in
theorem undoes2_any (w : World) : Calls Try.prog 88 #[] w fun e w' => e = .returned (.bool true) ∧ Below w.heap.size w w' := by
  have HK := Lib.hid kinds0_any
  have ga := good_of k1_check
  have gb := good_of k2_check
  go_enter Try.func88, Try.ntmps88
  go_wp2_with fail
  with_reducible refine (HK.out w).mono ?_
  rintro e w1 ⟨g, ks, rfl, HK1, hb1⟩
  obtain ⟨w2, hw2⟩ : ∃ w2, w2 = w1.alloc (.cells #[.slice (some ⟨g, 0, none⟩) 1 1, .slice none 0 0, .slice none 0 0] 52) := ⟨_, rfl⟩
  have hk12 : Kx 0 [] w1 w2 := by rw [hw2]; exact Kx.refl.alloc _
  have hx2 : WdY w2 0 ⟨some ⟨g, 0, none⟩, 1, 1, ks, none, 0, 0, [], none, 0, 0, []⟩ := ⟨HK1.out.1.keep hk12 (by simp) (by simp), GsY.nil_ _, IsY.nil_ _⟩
  have hp1 : (⟨some ⟨g, 0, none⟩, 1, 1, ks, none, 0, 0, [], none, 0, 0, []⟩ : Wd).p = ⟨[(k0n, k0f)], [], []⟩ := by unfold Wd.p; rw [HK1.out.2]; rfl
  have HN := Lib.hid (new82_any ⟨some ⟨g, 0, none⟩, 1, 1, ks, none, 0, 0, [], none, 0, 0, []⟩ w2.heap.size w2 hx2.ok_ (Nat.le_refl _) (by rw [hp1]; exact ga.sz) (by rw [hp1]; exact k1_check))
  rw [hp1] at HN
  dsimp only at HN
  have hbt : Bk w2 w1.heap.size 52 #[.slice (some ⟨g, 0, none⟩) 1 1, .slice none 0 0, .slice none 0 0] := by rw [hw2]; exact Bk.new _ _ _
  have hb2 : Below w.heap.size w w2 := by rw [hw2]; exact hb1.alloc hb1.size _
  obtain ⟨t1, ht1⟩ : ∃ t1, t1 = w1.heap.size := ⟨_, rfl⟩
  rw [← ht1] at hbt
  have a0 : w2.cell? ⟨t1, 0, none⟩ = some (.slice (some ⟨g, 0, none⟩) 1 1) := hbt.cell 0
  have a1 : w2.cell? ⟨t1, 1, none⟩ = some (.slice none 0 0) := hbt.cell 1
  have a2 : w2.cell? ⟨t1, 2, none⟩ = some (.slice none 0 0) := hbt.cell 2
  have HB2 := Lib.hid hb2
  have HBT := Lib.hid hbt
  have HX2 := Lib.hid hx2
  have HP1 := Lib.hid hp1
  have HW2 := Lib.hid hw2
  have HT1 := Lib.hid ht1
  clear hw2 hk12 hx2 hp1 hbt hb2 ht1 hb1
  go_upto_region 2 with fail
  rw [← HW2.out, ← HT1.out]
  go_wp2_with fail
  with_reducible refine (HN.out).mono ?_
  clear HN a0 a1 a2
  rintro e w3 ⟨hb, y, rfl, HY, hb3⟩
  have hz2 : w.heap.size ≤ w2.heap.size := HB2.out.size
  have hbt3 := HBT.out.below hb3 HBT.out.lt
  have a0 : w3.cell? ⟨t1, 0, none⟩ = some (.slice (some ⟨g, 0, none⟩) 1 1) := hbt3.cell 0
  obtain ⟨w4, hw4⟩ : ∃ w4, w4 = w3.alloc (.cells #[.int .i64 1] 3) := ⟨_, rfl⟩
  obtain ⟨w5, hw5⟩ : ∃ w5, w5 = w4.alloc (.cells #[.slice (some ⟨g, 0, none⟩) 1 1, .slice (some ⟨w3.heap.size, 0, none⟩) 1 1, .slice none 0 0] 52) := ⟨_, rfl⟩
  have hz4 : w4.heap.size = w3.heap.size + 1 := by rw [hw4]; simp
  obtain ⟨t4, ht4⟩ : ∃ t4, t4 = w3.heap.size + 1 := ⟨_, rfl⟩
  have hk35 : Kx 0 [] w3 w5 := by rw [hw5, hw4]; exact (Kx.refl.alloc _).alloc _
  have hb35 : Below w3.heap.size w3 w5 := by rw [hw5, hw4]; exact ((Below.refl _ _).alloc (Nat.le_refl _) _).alloc (by simp) _
  have hb4 : Bk w5 t4 52 #[.slice (some ⟨g, 0, none⟩) 1 1, .slice (some ⟨w3.heap.size, 0, none⟩) 1 1, .slice none 0 0] := by rw [hw5, ht4, ← hz4]; exact Bk.new _ _ _
  have hg5 : Bk w5 w3.heap.size 3 #[.int .i64 1] := by rw [hw5, hw4]; exact (Bk.new _ _ _).alloc _
  have hk23 : Kx 0 [] w2 w3 := Kx.of_below hb3
  have hks3 := (HX2.out.ks.keep hk23 (by simp) (by simp)).keep hk35 (by simp) (by simp)
  have hv5 : WdY w5 0 ⟨some ⟨g, 0, none⟩, 1, 1, ks, some ⟨w3.heap.size, 0, none⟩, 1, 1, [1], none, 0, 0, []⟩ := ⟨hks3, ⟨RdY.of_bk hg5 rfl (fun j u hu => by simpa using hu), rfl, Nat.le_refl _, by show (1 : Nat) ≤ _; omega, fun z hz => by rw [List.mem_singleton.1 hz]; decide⟩, IsY.nil_ _⟩
  have hp5 : (⟨some ⟨g, 0, none⟩, 1, 1, ks, some ⟨w3.heap.size, 0, none⟩, 1, 1, [1], none, 0, 0, []⟩ : Wd).p = ⟨[(k0n, k0f)], [1], []⟩ := by unfold Wd.p; rw [HK1.out.2]; rfl
  have hx5 : WdY w5 0 ⟨some ⟨g, 0, none⟩, 1, 1, ks, none, 0, 0, [], none, 0, 0, []⟩ := (HX2.out.keep hk23 (by simp) (by simp) (by simp) (by simp) (by simp)).keep hk35 (by simp) (by simp) (by simp) (by simp) (by simp)
  have hb15 := hbt3.below hb35 hbt3.lt
  have hyp : y.p = ⟨[(k0n, k0f)], [], []⟩ := HY.out.2.2.1
  have hw5b : Below w.heap.size w w5 := (HB2.out.trans (hb3.mono hz2)).trans (hb35.mono (by have := hb3.size; omega))
  have HD : Hid (∀ wz, Below w5.heap.size w5 wz → Calls Try.prog 84 #[.pointer (some ⟨hb, 0, none⟩), .string ⟨#[97]⟩, .agg #[.slice (some ⟨g, 0, none⟩) 1 1, .slice (some ⟨w3.heap.size, 0, none⟩) 1 1, .slice none 0 0]] wz fun e w' => ∃ (y6 : Wd) (A' : Option Addr) (n' c' : Nat) (s : StM), e = .returned (.int .i64 0) ∧ Hid (HistY w' hb w.heap.size y6 A' n' c' [s] none 0 0 [] ∧ n' = lastN 0 ∧ y6.p = ⟨[(k0n, k0f)], [1], []⟩ ∧ s.nm = ⟨#[97]⟩ ∧ s.ob = encD ⟨[(k0n, k0f)], [], []⟩ ⟨[(k0n, k0f)], [1], []⟩ ∧ s.bb = encD ⟨[(k0n, k0f)], [1], []⟩ ⟨[(k0n, k0f)], [], []⟩) ∧ Hid (Kz w.heap.size w5 w')) := Lib.hid (fun wz hz => by
    have h1 := do2_any hb w.heap.size y ⟨some ⟨g, 0, none⟩, 1, 1, ks, some ⟨w3.heap.size, 0, none⟩, 1, 1, [1], none, 0, 0, []⟩ ⟨#[97]⟩ none none 0 0 0 0 [] [] wz ⟨(HY.out.1.far hb35).far hz, ((HY.out.2.1.keep hk35 (by simp) (by simp) (by simp) (by simp) (by simp)).keep (Kx.of_below (B := 0) (F := []) hz) (by simp) (by simp) (by simp) (by simp) (by simp)), RowM.nil0 _ _, RowM.nil0 _ _, (fun q hq => by simp [Value.ownBlock] at hq), by have := HY.out.2.2.2; omega⟩ (hv5.keep (Kx.of_below (B := 0) (F := []) hz) (by simp) (by simp) (by simp) (by simp) (by simp)) (by rw [hp5]; exact k2_check) (by rw [hp5, hyp]; intro e; injection e with _ e _; cases e) (by rw [hyp]; exact ga) (by rw [hp5]; exact gb) (by rw [hp5, hyp]; exact encOk_of ga.sz gb.sz rfl (by simp) (by simp) (by simp) (by simp)) (by rw [hp5, hyp]; exact encOk_of gb.sz ga.sz rfl (by simp) (by simp) (by simp) (by simp)) (by omega) (by have := hw5b.size; have := hz.size; omega)
    rw [hp5, hyp] at h1
    exact h1.mono fun e w' ⟨y6, A', n', c', s, h2, h3, h4⟩ => ⟨y6, A', n', c', s, h2, Lib.hid h3.out, Lib.hid (Kz.trans ⟨hz.os, hz.tape, hz.output, Kx.of_below hz⟩ h4.out)⟩)
  have HB4 := Lib.hid hb4
  have HP5 := Lib.hid hp5
  have HV5 := Lib.hid hv5
  have HX5 := Lib.hid hx5
  have HB1 := Lib.hid hb15
  have HW5 := Lib.hid hw5b
  have HEQ := Lib.hid (And.intro hw4 (And.intro hw5 ht4))
  clear hw4 hw5 ht4 hz4 hk35 hb35 hb4 hg5 hk23 hks3 hv5 hx5 hb15 hyp hw5b hbt3 hb3 hp5
  go_upto_region 6 with fail
  rw [← HEQ.out.1, ← HEQ.out.2.1, ← HEQ.out.2.2]
  clear a0
  have s5 : w5.drew.cell? ⟨t4, 0, none⟩ = some (.slice (some ⟨g, 0, none⟩) 1 1) ∧ w5.drew.cell? ⟨t4, 1, none⟩ = some (.slice (some ⟨w3.heap.size, 0, none⟩) 1 1) ∧ w5.drew.cell? ⟨t4, 2, none⟩ = some (.slice none 0 0) := ⟨HB4.out.cell 0, HB4.out.cell 1, HB4.out.cell 2⟩
  go_upto_if 33 with fail
  go_cut [33] from 23 to 32 (fun bv wx => bv = .bool false ∧ Hid (∃ y6 A6 c6 s, HistY wx hb w.heap.size y6 A6 1 c6 [s] none 0 0 [] ∧ y6.p = ⟨[(k0n, k0f)], [1], []⟩ ∧ s.nm = ⟨#[97]⟩ ∧ s.bb = encD ⟨[(k0n, k0f)], [1], []⟩ ⟨[(k0n, k0f)], [], []⟩) ∧ Hid (Below w.heap.size w wx) ∧ Hid (Bk wx t1 52 #[.slice (some ⟨g, 0, none⟩) 1 1, .slice none 0 0, .slice none 0 0]) ∧ Hid (WdY wx 0 ⟨some ⟨g, 0, none⟩, 1, 1, ks, none, 0, 0, [], none, 0, 0, []⟩))
  case first =>
    refine wp_region_H (S := fun wz => wz.cell? ⟨t4, 0, none⟩ = some (.slice (some ⟨g, 0, none⟩) 1 1) ∧ wz.cell? ⟨t4, 1, none⟩ = some (.slice (some ⟨w3.heap.size, 0, none⟩) 1 1) ∧ wz.cell? ⟨t4, 2, none⟩ = some (.slice none 0 0)) (by kernel_rfl) ?_
    refine wpAnyH_val (i := 0) (v := .pointer (some ⟨hb, 0, none⟩)) (d := some 23) rfl rfl (by kernel_rfl) (by kernel_rfl) (by kernel_rfl) (fun _ _ _ h => h) (Or.inl ⟨by rfl, fun w hS => by (obtain ⟨h0, h1, h2⟩ := hS; go_simp)⟩) s5 ?_
    (try simp only [Act.put, List.setIfInBounds_toArray, List.set_cons_zero, List.set_cons_succ])
    refine wpAnyH_val (i := 1) (v := .agg #[.slice (some ⟨g, 0, none⟩) 1 1, .slice (some ⟨w3.heap.size, 0, none⟩) 1 1, .slice none 0 0]) (d := some 24) rfl rfl (by kernel_rfl) (by kernel_rfl) (by kernel_rfl) (fun _ _ _ h => h) (Or.inl ⟨by rfl, fun w hS => by (obtain ⟨h0, h1, h2⟩ := hS; go_simp)⟩) s5 ?_
    (try simp only [Act.put, List.setIfInBounds_toArray, List.set_cons_zero, List.set_cons_succ])
    refine wpAnyH_oneW (i := 2) rfl (by kernel_rfl) (by rfl) ?_
    go_simp
    go_at_call 84
    (with_reducible refine (HD.out _ ?hb).mono ?_)
    case hb => (repeat' first | exact Below.refl _ _ | refine Below.drew ?_)
    rintro e w6 ⟨y6, A6, n6, c6, s, rfl, HH6, HKZ⟩
    have hn6 : n6 = 1 := HH6.out.2.1.trans (by decide)
    subst hn6
    have hk6 : Kx 0 [263, 265] w5 w6 := HKZ.out.kx.mono (Nat.zero_le _) (fun _ h => h)
    have hb46 := hk6.bk HB4.out (by decide)
    have s6 := And.intro (hb46.cell 0) (And.intro (hb46.cell 1) (hb46.cell 2))
    have HNW := Lib.hid (fun (wz : World) (hz : Below w6.heap.size w6 wz) => now_any hb y6 _ _ wz (HH6.out.1.bk.far hz) (HH6.out.1.x.keep (Kx.of_below (B := 0) (F := []) hz) (by simp) (by simp) (by simp) (by simp) (by simp)) (by rw [HH6.out.2.2.1]; exact (good_of k2_check).sz))
    have HB46 := Lib.hid hb46
    refine And.intro s6 ?_
    (try simp only [Act.put, List.setIfInBounds_toArray, List.set_cons_zero, List.set_cons_succ])
    refine wpAnyH_val (i := 3) (v := .bool false) (d := some 26) rfl rfl (by kernel_rfl) (by kernel_rfl) (by kernel_rfl) (fun _ _ _ h => h) (Or.inl ⟨by rfl, fun w hS => by (obtain ⟨h0, h1, h2⟩ := hS; go_simp)⟩) s6 ?_
    (try simp only [Act.put, List.setIfInBounds_toArray, List.set_cons_zero, List.set_cons_succ])
    refine wpAnyH_val (i := 4) (v := .bool false) (d := some 27) rfl rfl (by kernel_rfl) (by kernel_rfl) (by kernel_rfl) (fun _ _ _ h => h) (Or.inl ⟨by rfl, fun w hS => by (obtain ⟨h0, h1, h2⟩ := hS; go_simp)⟩) s6 ?_
    (try simp only [Act.put, List.setIfInBounds_toArray, List.set_cons_zero, List.set_cons_succ])
    refine wpAnyH_val (i := 5) (v := .pointer (some ⟨hb, 0, none⟩)) (d := some 28) rfl rfl (by kernel_rfl) (by kernel_rfl) (by kernel_rfl) (fun _ _ _ h => h) (Or.inl ⟨by rfl, fun w hS => by (obtain ⟨h0, h1, h2⟩ := hS; go_simp)⟩) s6 ?_
    (try simp only [Act.put, List.setIfInBounds_toArray, List.set_cons_zero, List.set_cons_succ])
    refine wpAnyH_val (i := 7) (v := .agg #[.slice (some ⟨g, 0, none⟩) 1 1, .slice (some ⟨w3.heap.size, 0, none⟩) 1 1, .slice none 0 0]) (d := some 30) rfl rfl (by kernel_rfl) (by kernel_rfl) (by kernel_rfl) (fun _ _ _ h => h) (Or.inl ⟨by rfl, fun w hS => by (obtain ⟨h0, h1, h2⟩ := hS; go_simp)⟩) s6 ?_
    (try simp only [Act.put, List.setIfInBounds_toArray, List.set_cons_zero, List.set_cons_succ])
    refine wpAnyH_oneW (i := 6) rfl (by kernel_rfl) (by rfl) ?_
    go_simp
    go_at_call 86
    (with_reducible refine (HNW.out _ ?hb).mono ?_)
    case hb => (repeat' first | exact Below.refl _ _ | refine Below.drew ?_)
    rintro e w7 ⟨y7, rfl, HY7, hb7⟩
    have hB7 : Below w6.heap.size w6 w7 := Below.tr (by repeat' first | exact Below.refl _ _ | refine Below.drew ?_) hb7
    have hb47 := HB46.out.below hB7 HB46.out.lt
    have s7 := And.intro (hb47.cell 0) (And.intro (hb47.cell 1) (hb47.cell 2))
    have hv7 : WdY w7 0 ⟨some ⟨g, 0, none⟩, 1, 1, ks, some ⟨w3.heap.size, 0, none⟩, 1, 1, [1], none, 0, 0, []⟩ := (HV5.out.keep hk6 (by decide) (by decide) (by decide) (by decide) (by decide)).keep (Kx.of_below (B := 0) (F := []) hB7) (by simp) (by simp) (by simp) (by simp) (by simp)
    have HSM : Hid (∀ wz, Below w7.heap.size w7 wz → Calls Try.prog 38 #[.agg #[.slice y7.kA y7.kn y7.kc, .slice y7.gA y7.gn y7.gc, .slice y7.iA y7.im y7.ic], .agg #[.slice (some ⟨g, 0, none⟩) 1 1, .slice (some ⟨w3.heap.size, 0, none⟩) 1 1, .slice none 0 0]] wz fun e w' => e = .returned (.bool true) ∧ Below wz.heap.size wz w') := Lib.hid (fun wz hz => by
      have h1 := wsame_any (HY7.out.1.ok_.below hz) (hv7.ok_.below hz)
      rw [HY7.out.2, HH6.out.2.2.1, HP5.out, decide_eq_true rfl] at h1; exact h1)
    refine And.intro s7 ?_
    (try simp only [Act.put, List.setIfInBounds_toArray, List.set_cons_zero, List.set_cons_succ])
    refine wpAnyH_oneW (i := 8) rfl (by kernel_rfl) (by rfl) ?_
    go_simp
    go_at_call 38
    (with_reducible refine (HSM.out _ ?hb).mono ?_)
    case hb => (repeat' first | exact Below.refl _ _ | refine Below.drew ?_)
    rintro e w8 ⟨rfl, hb8⟩
    have hB8 : Below w7.heap.size w7 w8 := Below.tr (by repeat' first | exact Below.refl _ _ | refine Below.drew ?_) hb8
    have hb48 := hb47.below hB8 hb47.lt
    have s8 := And.intro (hb48.cell 0) (And.intro (hb48.cell 1) (hb48.cell 2))
    refine And.intro s8 ?_
    (try simp only [Act.put, List.setIfInBounds_toArray, List.set_cons_zero, List.set_cons_succ])
    refine wpAnyH_val (i := 9) (v := .bool false) (d := some 32) rfl rfl (by kernel_rfl) (by kernel_rfl) (by kernel_rfl) (fun _ _ _ h => h) (Or.inl ⟨by rfl, fun w hS => by (obtain ⟨h0, h1, h2⟩ := hS; go_simp)⟩) s8 ?_
    (try simp only [Act.put, List.setIfInBounds_toArray, List.set_cons_zero, List.set_cons_succ])
    refine wpAnyH_val (i := 10) (v := .bool false) (d := some 33) rfl rfl (by kernel_rfl) (by kernel_rfl) (by kernel_rfl) (fun _ _ _ h => h) (Or.inl ⟨by rfl, fun w hS => by (obtain ⟨h0, h1, h2⟩ := hS; go_simp)⟩) s8 ?_
    (try simp only [Act.put, List.setIfInBounds_toArray, List.set_cons_zero, List.set_cons_succ])
    refine wpAnyH_done (by kernel_rfl) ?_ _
    go_wp2_with fail
    go_meet
    case rel => exact ⟨rfl, Lib.hid ⟨y6, A6, c6, s, (HH6.out.1.below hB7).below hB8, HH6.out.2.2.1, HH6.out.2.2.2.1, HH6.out.2.2.2.2.2⟩, Lib.hid (((HW5.out.trans (HKZ.out.toBelow HW5.out.size)).trans (hB7.mono (by have := HW5.out.size; have := hk6.size; omega))).trans (hB8.mono (by have := HW5.out.size; have := hk6.size; have := hB7.size; omega))), Lib.hid ((((hk6.bk HB1.out (by decide)).below hB7 (hk6.bk HB1.out (by decide)).lt).below hB8 (by have := (hk6.bk HB1.out (by decide)).lt; have := hB7.size; omega))), Lib.hid (((HX5.out.keep hk6 (by decide) (by decide) (by decide) (by decide) (by decide)).keep (Kx.of_below (B := 0) (F := []) hB7) (by simp) (by simp) (by simp) (by simp) (by simp)).keep (Kx.of_below (B := 0) (F := []) hB8) (by simp) (by simp) (by simp) (by simp) (by simp))⟩
  case rest =>
    obtain ⟨rfl, HH9, HW9, HB9, HX9⟩ := hcut
    obtain ⟨w9, rfl⟩ : ∃ q, q = wc := ⟨_, rfl⟩
    obtain ⟨y6, A6, c6, s, hh, hy6, hsn, hsb⟩ := HH9.out
    have HU := Lib.hid (undo_any hb w.heap.size y6 ⟨[(k0n, k0f)], [], []⟩ s A6 none 0 c6 0 0 [] [] w9 hh (by rw [hy6]; exact gb) ga (by rw [hy6]; exact encOk_of gb.sz ga.sz rfl (by simp) (by simp) (by simp) (by simp)) (by rw [hy6]; exact hsb) ⟨by omega, by omega⟩ HW9.out.size)
    rw [hsn] at HU
    clear hh hy6 hsn hsb s5
    go_wp2_with fail
    with_reducible refine (HU.out).mono ?_
    clear HU
    rintro e w11 ⟨y11, A11, c11, rfl, HH11, HKZ⟩
    have hk11 : Kx 0 [263, 265] w9 w11 := HKZ.out.kx.mono (Nat.zero_le _) (fun _ h => h)
    have HB11 := Lib.hid (hk11.bk HB9.out (by decide))
    have HX11 : Hid (WdY w11 0 ⟨some ⟨g, 0, none⟩, 1, 1, ks, none, 0, 0, [], none, 0, 0, []⟩) := Lib.hid (HX9.out.keep hk11 (by decide) (by decide) (by decide) (by decide) (by decide))
    have HW11 : Hid (Below w.heap.size w w11) := Lib.hid (HW9.out.trans (HKZ.out.toBelow HW9.out.size))
    have HQ := Lib.hid HH11.out.2
    have HNW := Lib.hid (fun (wz : World) (hz : Below w11.heap.size w11 wz) => now_any hb y11 _ _ wz (HH11.out.1.bk.far hz) (HH11.out.1.x.keep (Kx.of_below (B := 0) (F := []) hz) (by simp) (by simp) (by simp) (by simp) (by simp)) (by rw [HH11.out.2]; exact ga.sz))
    have s5 : w11.drew.cell? ⟨t1, 0, none⟩ = some (.slice (some ⟨g, 0, none⟩) 1 1) ∧ w11.drew.cell? ⟨t1, 1, none⟩ = some (.slice none 0 0) ∧ w11.drew.cell? ⟨t1, 2, none⟩ = some (.slice none 0 0) := ⟨HB11.out.cell 0, HB11.out.cell 1, HB11.out.cell 2⟩
    go_upto_region 9 with fail
    refine wp_region_H (S := fun wz => wz.cell? ⟨t1, 0, none⟩ = some (.slice (some ⟨g, 0, none⟩) 1 1) ∧ wz.cell? ⟨t1, 1, none⟩ = some (.slice none 0 0) ∧ wz.cell? ⟨t1, 2, none⟩ = some (.slice none 0 0)) (by kernel_rfl) ?_
    refine wpAnyH_val (i := 0) (v := .int .i64 0) (d := some 39) rfl rfl (by kernel_rfl) (by kernel_rfl) (by kernel_rfl) (fun _ _ _ h => h) (Or.inl ⟨by rfl, fun w hS => by (obtain ⟨h0, h1, h2⟩ := hS; go_simp)⟩) s5 ?_
    (try simp only [Act.put, List.setIfInBounds_toArray, List.set_cons_zero, List.set_cons_succ])
    refine wpAnyH_val (i := 1) (v := .bool true) (d := some 40) rfl rfl (by kernel_rfl) (by kernel_rfl) (by kernel_rfl) (fun _ _ _ h => h) (Or.inl ⟨by rfl, fun w hS => by (obtain ⟨h0, h1, h2⟩ := hS; go_simp)⟩) s5 ?_
    (try simp only [Act.put, List.setIfInBounds_toArray, List.set_cons_zero, List.set_cons_succ])
    refine wpAnyH_val (i := 2) (v := .bool true) (d := some 41) rfl rfl (by kernel_rfl) (by kernel_rfl) (by kernel_rfl) (fun _ _ _ h => h) (Or.inl ⟨by rfl, fun w hS => by (obtain ⟨h0, h1, h2⟩ := hS; go_simp)⟩) s5 ?_
    (try simp only [Act.put, List.setIfInBounds_toArray, List.set_cons_zero, List.set_cons_succ])
    refine wpAnyH_val (i := 3) (v := .string ⟨#[97]⟩) (d := some 42) rfl rfl (by kernel_rfl) (by kernel_rfl) (by kernel_rfl) (fun _ _ _ h => h) (Or.inl ⟨by rfl, fun w hS => by (obtain ⟨h0, h1, h2⟩ := hS; go_simp)⟩) s5 ?_
    (try simp only [Act.put, List.setIfInBounds_toArray, List.set_cons_zero, List.set_cons_succ])
    refine wpAnyH_val (i := 4) (v := .bool true) (d := some 43) rfl rfl (by kernel_rfl) (by kernel_rfl) (by kernel_rfl) (fun _ _ _ h => h) (Or.inl ⟨by rfl, fun w hS => by (obtain ⟨h0, h1, h2⟩ := hS; go_simp)⟩) s5 ?_
    (try simp only [Act.put, List.setIfInBounds_toArray, List.set_cons_zero, List.set_cons_succ])
    refine wpAnyH_val (i := 5) (v := .bool true) (d := some 44) rfl rfl (by kernel_rfl) (by kernel_rfl) (by kernel_rfl) (fun _ _ _ h => h) (Or.inl ⟨by rfl, fun w hS => by (obtain ⟨h0, h1, h2⟩ := hS; go_simp)⟩) s5 ?_
    (try simp only [Act.put, List.setIfInBounds_toArray, List.set_cons_zero, List.set_cons_succ])
    refine wpAnyH_val (i := 6) (v := .bool true) (d := some 45) rfl rfl (by kernel_rfl) (by kernel_rfl) (by kernel_rfl) (fun _ _ _ h => h) (Or.inl ⟨by rfl, fun w hS => by (obtain ⟨h0, h1, h2⟩ := hS; go_simp)⟩) s5 ?_
    (try simp only [Act.put, List.setIfInBounds_toArray, List.set_cons_zero, List.set_cons_succ])
    refine wpAnyH_val (i := 7) (v := .pointer (some ⟨hb, 0, none⟩)) (d := some 46) rfl rfl (by kernel_rfl) (by kernel_rfl) (by kernel_rfl) (fun _ _ _ h => h) (Or.inl ⟨by rfl, fun w hS => by (obtain ⟨h0, h1, h2⟩ := hS; go_simp)⟩) s5 ?_
    (try simp only [Act.put, List.setIfInBounds_toArray, List.set_cons_zero, List.set_cons_succ])
    refine wpAnyH_val (i := 9) (v := .agg #[.slice (some ⟨g, 0, none⟩) 1 1, .slice none 0 0, .slice none 0 0]) (d := some 48) rfl rfl (by kernel_rfl) (by kernel_rfl) (by kernel_rfl) (fun _ _ _ h => h) (Or.inl ⟨by rfl, fun w hS => by (obtain ⟨h0, h1, h2⟩ := hS; go_simp)⟩) s5 ?_
    (try simp only [Act.put, List.setIfInBounds_toArray, List.set_cons_zero, List.set_cons_succ])
    refine wpAnyH_oneW (i := 8) rfl (by kernel_rfl) (by rfl) ?_
    go_simp
    go_at_call 86
    (with_reducible refine (HNW.out _ ?hb).mono ?_)
    case hb => (repeat' first | exact Below.refl _ _ | refine Below.drew ?_)
    rintro e w12 ⟨y12, rfl, HY12, hb12⟩
    have hB12 : Below w11.heap.size w11 w12 := Below.tr (by repeat' first | exact Below.refl _ _ | refine Below.drew ?_) hb12
    have hbt := HB11.out.below hB12 HB11.out.lt
    have s7 := And.intro (hbt.cell 0) (And.intro (hbt.cell 1) (hbt.cell 2))
    have hx12 : WdY w12 0 ⟨some ⟨g, 0, none⟩, 1, 1, ks, none, 0, 0, [], none, 0, 0, []⟩ := HX11.out.keep (Kx.of_below (B := 0) (F := []) hB12) (by simp) (by simp) (by simp) (by simp) (by simp)
    have HSM : Hid (∀ wz, Below w12.heap.size w12 wz → Calls Try.prog 38 #[.agg #[.slice y12.kA y12.kn y12.kc, .slice y12.gA y12.gn y12.gc, .slice y12.iA y12.im y12.ic], .agg #[.slice (some ⟨g, 0, none⟩) 1 1, .slice none 0 0, .slice none 0 0]] wz fun e w' => e = .returned (.bool true) ∧ Below wz.heap.size wz w') := Lib.hid (fun wz hz => by
      have h1 := wsame_any (HY12.out.1.ok_.below hz) (hx12.ok_.below hz)
      rw [HY12.out.2, HQ.out, HP1.out, decide_eq_true rfl] at h1; exact h1)
    refine And.intro s7 ?_
    (try simp only [Act.put, List.setIfInBounds_toArray, List.set_cons_zero, List.set_cons_succ])
    refine wpAnyH_oneW (i := 10) rfl (by kernel_rfl) (by rfl) ?_
    go_simp
    go_at_call 38
    (with_reducible refine (HSM.out _ ?hb).mono ?_)
    case hb => (repeat' first | exact Below.refl _ _ | refine Below.drew ?_)
    rintro e w13 ⟨rfl, hb13⟩
    have hB13 : Below w12.heap.size w12 w13 := Below.tr (by repeat' first | exact Below.refl _ _ | refine Below.drew ?_) hb13
    have hbt2 := hbt.below hB13 hbt.lt
    have s8 := And.intro (hbt2.cell 0) (And.intro (hbt2.cell 1) (hbt2.cell 2))
    refine And.intro s8 ?_
    (try simp only [Act.put, List.setIfInBounds_toArray, List.set_cons_zero, List.set_cons_succ])
    refine wpAnyH_val (i := 11) (v := .bool true) (d := some 50) rfl rfl (by kernel_rfl) (by kernel_rfl) (by kernel_rfl) (fun _ _ _ h => h) (Or.inl ⟨by rfl, fun w hS => by (obtain ⟨h0, h1, h2⟩ := hS; go_simp)⟩) s8 ?_
    (try simp only [Act.put, List.setIfInBounds_toArray, List.set_cons_zero, List.set_cons_succ])
    refine wpAnyH_val (i := 12) (v := .bool true) (d := some 0) rfl rfl (by kernel_rfl) (by kernel_rfl) (by kernel_rfl) (fun _ _ _ h => h) (Or.inl ⟨by rfl, fun w hS => by (obtain ⟨h0, h1, h2⟩ := hS; go_simp)⟩) s8 ?_
    (try simp only [Act.put, List.setIfInBounds_toArray, List.set_cons_zero])
    refine wpAnyH_done (by kernel_rfl) ?_ _
    go_wp2_with fail
    go_ret
    exact ⟨rfl, (HW11.out.trans (hB12.mono HW11.out.size)).trans (hB13.mono (by have := HW11.out.size; have := hB12.size; omega))⟩
end Go.Proofs.Ytnidcmhfbkdioaa
