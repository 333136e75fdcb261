/-
  The arm of Join in the law UndoSays. Conditions: fewer than 120 rounds.
-/
import Derived.Test.YtnidcmhfbkdioaaXy
namespace Go.Proofs.Ytnidcmhfbkdioaa
open Go.RowKit
set_option maxRecDepth 100000

set_option maxHeartbeats 8000000 in
theorem usJoin_any {x0 x2 x3 x4 x5 x7 x14 x15 x16 x17 x18 x19 x20 x21 x22 x23 x24 x25 x26 x27 x28 x29 x30 x31 x32 x33 x34 x35 x36 x37 x38 x39 x40 x41 x42 x43 x44 x45 x46 x47 x48 x49 x50 x51 x52 x53 x54 x55 x56 x57 x58 x59 x60 x61 x62 x63 x64 x65 x66 x67 x68 x69 x70 x71 x72 x73 x74 x75 x76 x77 x78 x79 x80 x81 x82 x83 x84 x85 x86 x87 x88 x89 x90 x91 x92 x93 x94 x95 x96 x97 x98 x99 x100 x101 x102 x103 x104 x105 x106 x107 x108 x109 x110 x111 x112 x113 x114 x115 x116 x117 x118 x119 x120 x121 x122 x123 x124 x125 x126 x127 x128 x129 x130 x131 x132 x133 x134 x135 x136 x137 x138 x139 x140 x141 x142 x143 x144 x145 x146 x147 x148 x149 x150 x151 x152 x153 x154 x155 x156 x157 x158 x159 x160 x161 x162 x163 x164 x165 x166 x167 x168 x169 x170 x171 x172 x173 x174 x175 x176 x177 x178 x179 x180 x181 x182 x183 x184 x185 x186 x187 x188 x189 x190 x191 x192 x193 x194 x195 x196 x197 x198 x199 x200 x201 x202 x203 x204 x205 x206 x207 x208 x209 x210 x211 x212 x213 x214 x215 x216 x217 x218 x219 x220 x221 x222 x223 x224 x225 x226 x227 x228 x229 x230 x231 x232 x233 x234 x235 x236 x237 x238 x239 x240 x241 x242 x243 x244 x245 x246 x247 x248 x249 x250 x251 x252 x253 x254 x255 x256 x257 x258 x259 x260 x261 : Value} {Q : Exit → Act → World → Prop} {w0 wr : World} {hb : Nat} {AA NA XA : Option Addr} {L ac nc pa xn xc i : Nat} {z : Int} {nm : ByteArray} {K0 : List Kp2} (HI : Hid (USe w0 wr hb AA NA L ac nc pa K0 i)) (HK : Hid (KOk K0)) (hi : i < 120)
    (hN : ∀ (y18 y19 y167 y168 y169 y170 y171 y172 y173 y174 y175 y176 y177 y178 y179 y180 y181 y182 y183 y184 y185 y186 y187 y188 y189 y190 y191 y192 y193 y194 y195 y196 y197 y198 y199 y200 y201 y202 y203 y204 y205 y206 y207 y208 y209 y210 y211 y212 y213 y214 y215 y216 y217 y218 y219 y220 y221 y222 y223 y224 y225 y226 y227 y228 y229 : Value) (L' pa' : Nat) (w' : World), Hid (USe w0 w' hb AA NA L' ac nc pa' K0 (i + 1)) → Q .normal ⟨#[x0, .slice XA xn xc, x2, x3, x4, x5, .pointer (some ⟨hb, 0, none⟩), x7, .slice AA L' ac, .slice NA L' nc, .int .i64 pa', .int .i64 i, .int .i64 z, .string nm, x14, x15, x16, x17, y18, y19, x20, x21, x22, x23, x24, x25, x26, x27, x28, x29, x30, x31, x32, x33, x34, x35, x36, x37, x38, x39, x40, x41, x42, x43, x44, x45, x46, x47, x48, x49, x50, x51, x52, x53, x54, x55, x56, x57, x58, x59, x60, x61, x62, x63, x64, x65, x66, x67, x68, x69, x70, x71, x72, x73, x74, x75, x76, x77, x78, x79, x80, x81, x82, x83, x84, x85, x86, x87, x88, x89, x90, x91, x92, x93, x94, x95, x96, x97, x98, x99, x100, x101, x102, x103, x104, x105, x106, x107, x108, x109, x110, x111, x112, x113, x114, x115, x116, x117, x118, x119, x120, x121, x122, x123, x124, x125, x126, x127, x128, x129, x130, x131, x132, x133, x134, x135, x136, x137, x138, x139, x140, x141, x142, x143, x144, x145, x146, x147, x148, x149, x150, x151, x152, x153, x154, x155, x156, x157, x158, x159, x160, x161, x162, x163, x164, x165, x166, y167, y168, y169, y170, y171, y172, y173, y174, y175, y176, y177, y178, y179, y180, y181, y182, y183, y184, y185, y186, y187, y188, y189, y190, y191, y192, y193, y194, y195, y196, y197, y198, y199, y200, y201, y202, y203, y204, y205, y206, y207, y208, y209, y210, y211, y212, y213, y214, y215, y216, y217, y218, y219, y220, y221, y222, y223, y224, y225, y226, y227, y228, y229, x230, x231, x232, x233, x234, x235, x236, x237, x238, x239, x240, x241, x242, x243, x244, x245, x246, x247, x248, x249, x250, x251, x252, x253, x254, x255, x256, x257, x258, x259, x260, x261], []⟩ w')
    (hE : ∀ (y18 y19 y167 y168 y169 y170 y171 y172 y173 y174 y175 y176 y177 y178 y179 y180 y181 y182 y183 y184 y185 y186 y187 y188 y189 y190 y191 y192 y193 y194 y195 y196 y197 y198 y199 y200 y201 y202 y203 y204 y205 y206 y207 y208 y209 y210 y211 y212 y213 y214 y215 y216 y217 y218 y219 y220 y221 y222 y223 y224 y225 y226 y227 y228 y229 : Value) (w' : World), Hid (USe w0 w' hb AA NA L ac nc pa K0 (i + 1)) → Q (.exit 1) ⟨#[x0, .slice XA xn xc, x2, x3, x4, x5, .pointer (some ⟨hb, 0, none⟩), x7, .slice AA L ac, .slice NA L nc, .int .i64 pa, .int .i64 i, .int .i64 z, .string nm, x14, x15, x16, x17, y18, y19, x20, x21, x22, x23, x24, x25, x26, x27, x28, x29, x30, x31, x32, x33, x34, x35, x36, x37, x38, x39, x40, x41, x42, x43, x44, x45, x46, x47, x48, x49, x50, x51, x52, x53, x54, x55, x56, x57, x58, x59, x60, x61, x62, x63, x64, x65, x66, x67, x68, x69, x70, x71, x72, x73, x74, x75, x76, x77, x78, x79, x80, x81, x82, x83, x84, x85, x86, x87, x88, x89, x90, x91, x92, x93, x94, x95, x96, x97, x98, x99, x100, x101, x102, x103, x104, x105, x106, x107, x108, x109, x110, x111, x112, x113, x114, x115, x116, x117, x118, x119, x120, x121, x122, x123, x124, x125, x126, x127, x128, x129, x130, x131, x132, x133, x134, x135, x136, x137, x138, x139, x140, x141, x142, x143, x144, x145, x146, x147, x148, x149, x150, x151, x152, x153, x154, x155, x156, x157, x158, x159, x160, x161, x162, x163, x164, x165, x166, y167, y168, y169, y170, y171, y172, y173, y174, y175, y176, y177, y178, y179, y180, y181, y182, y183, y184, y185, y186, y187, y188, y189, y190, y191, y192, y193, y194, y195, y196, y197, y198, y199, y200, y201, y202, y203, y204, y205, y206, y207, y208, y209, y210, y211, y212, y213, y214, y215, y216, y217, y218, y219, y220, y221, y222, y223, y224, y225, y226, y227, y228, y229, x230, x231, x232, x233, x234, x235, x236, x237, x238, x239, x240, x241, x242, x243, x244, x245, x246, x247, x248, x249, x250, x251, x252, x253, x254, x255, x256, x257, x258, x259, x260, x261], []⟩ w')
    : Code.wp Try.prog usJoin Q ⟨#[x0, .slice XA xn xc, x2, x3, x4, x5, .pointer (some ⟨hb, 0, none⟩), x7, .slice AA L ac, .slice NA L nc, .int .i64 pa, .int .i64 i, .int .i64 z, .string nm, x14, x15, x16, x17, x18, x19, x20, x21, x22, x23, x24, x25, x26, x27, x28, x29, x30, x31, x32, x33, x34, x35, x36, x37, x38, x39, x40, x41, x42, x43, x44, x45, x46, x47, x48, x49, x50, x51, x52, x53, x54, x55, x56, x57, x58, x59, x60, x61, x62, x63, x64, x65, x66, x67, x68, x69, x70, x71, x72, x73, x74, x75, x76, x77, x78, x79, x80, x81, x82, x83, x84, x85, x86, x87, x88, x89, x90, x91, x92, x93, x94, x95, x96, x97, x98, x99, x100, x101, x102, x103, x104, x105, x106, x107, x108, x109, x110, x111, x112, x113, x114, x115, x116, x117, x118, x119, x120, x121, x122, x123, x124, x125, x126, x127, x128, x129, x130, x131, x132, x133, x134, x135, x136, x137, x138, x139, x140, x141, x142, x143, x144, x145, x146, x147, x148, x149, x150, x151, x152, x153, x154, x155, x156, x157, x158, x159, x160, x161, x162, x163, x164, x165, x166, x167, x168, x169, x170, x171, x172, x173, x174, x175, x176, x177, x178, x179, x180, x181, x182, x183, x184, x185, x186, x187, x188, x189, x190, x191, x192, x193, x194, x195, x196, x197, x198, x199, x200, x201, x202, x203, x204, x205, x206, x207, x208, x209, x210, x211, x212, x213, x214, x215, x216, x217, x218, x219, x220, x221, x222, x223, x224, x225, x226, x227, x228, x229, x230, x231, x232, x233, x234, x235, x236, x237, x238, x239, x240, x241, x242, x243, x244, x245, x246, x247, x248, x249, x250, x251, x252, x253, x254, x255, x256, x257, x258, x259, x260, x261], []⟩ wr := by
  conv => arg 2; whnf
  obtain ⟨Ws, Ns, now, dA, gA, dc, gn, gc, D, G, hU⟩ := HI.out
  have HU := Lib.hid hU
  obtain ⟨T, hT⟩ : ∃ T : Int, T = z / 8 % 8 := ⟨_, rfl⟩
  have hT0 : 0 ≤ T ∧ T ≤ 7 := by omega
  have hand : bits BinOp.and IntKind.i64 (z / 8) 7 = T := by rw [and7, hT]
  obtain ⟨N, hN0⟩ : ∃ N : Int, N = T - 1 := ⟨_, rfl⟩
  have hNT : N ≤ 6 ∧ -1 ≤ N := by omega
  have hwr : IntKind.i64.wrap (T - 1) = N := by rw [IntKind.wrap_i64]; omega
  clear hT hN0 hT0
  by_cases hbad : N < 1 ∨ (pa : Int) < N
  · have HC := Lib.hid (hjoin_bad hb now nm dA gA pa dc gn gc _ D G N wr hU.hy hbad)
    have HB := Lib.hid hbad
    clear hU hbad hNT
    go_wp2_with fail
    with_reducible refine (HC.out).mono ?_
    rintro e w' ⟨rfl, rfl⟩
    by_cases hb1 : N < 1
    · go_wp2_with fail
      exact Lib.hid ⟨_, _, _, _, _, _, _, _, _, _, HU.out.below (Below.refl _ _)⟩
    · have hb2 : (pa : Int) < N := by have := HB.out; omega
      go_wp2_with fail
      exact Lib.hid ⟨_, _, _, _, _, _, _, _, _, _, HU.out.below (Below.refl _ _)⟩
  · obtain ⟨n, hn⟩ : ∃ n : Nat, N = n := ⟨N.toNat, by omega⟩
    subst hn
    have hn1 : 1 ≤ n := by omega
    have hn2 : n ≤ pa := by omega
    have hn3 : n ≤ 6 := by omega
    have hbz1 : ¬ ((n : Int) < 1) := by omega
    have hbz2 : ¬ ((pa : Int) < (n : Int)) := by omega
    have hdl := hU.hy.d.len
    have hlen := hU.len
    have hbn := hU.bnd
    obtain ⟨c0, hc0⟩ : ∃ c0, c0 = pa - n := ⟨_, rfl⟩
    obtain ⟨c1, hc1⟩ : ∃ c1, c1 = c0 + 1 := ⟨_, rfl⟩
    obtain ⟨C, D1, hCD, hCl, hDl⟩ : ∃ C D1, D = C ++ D1 ∧ C.length = c0 ∧ D1.length = n := ⟨D.take c0, D.drop c0, (List.take_append_drop _ _).symm, by rw [List.length_take]; omega, by rw [List.length_drop]; omega⟩
    subst hCD
    have HC := Lib.hid (hjoin_any hb w0.heap.size now nm dA gA pa dc gn gc n C D1 G (qf Ws now pa) wr hU.hy hDl hn1 hU.qf0 (hU.back hDl) (fun k _ => hU.good_ HK.out k) (fun k j _ _ => hU.enc_ HK.out hi k j) (by omega) hU.bel.size)
    obtain ⟨za, hza, hzam, hqa⟩ := hU.qf_ n
    rw [← hc0] at hza
    obtain ⟨zb, hzb, hzbm, hqb⟩ := hU.qf_ 0
    rw [Nat.sub_zero] at hzb
    rw [hU.qf0] at hqb
    have hsp : wdCs Ws = wdCs (Ws.take c1) ++ wdCs ((Ws.take pa).drop c1) ++ wdCs (Ws.drop pa) := by
      rw [← wdCs_app, ← wdCs_app]
      congr 1
      have h1 : Ws.take c1 = (Ws.take pa).take c1 := by rw [List.take_take, Nat.min_eq_left (by omega)]
      rw [h1, List.take_append_drop, List.take_append_drop]
    have hsn : strV Ns = strV (Ns.take c1) ++ strV ((Ns.take pa).drop c1) ++ strV (Ns.drop pa) := by
      rw [← strV_app2, ← strV_app2]
      congr 1
      have h1 : Ns.take c1 = (Ns.take pa).take c1 := by rw [List.take_take, Nat.min_eq_left (by omega)]
      rw [h1, List.take_append_drop, List.take_append_drop]
    have hwl := hU.wlen
    have hnl := hU.nlen
    have hl1 : (wdCs (Ws.take c1)).length = c1 * 3 := by rw [wdCs_length, List.length_take, Nat.min_eq_left (by omega)]
    have hl2 : (wdCs ((Ws.take pa).drop c1)).length = (pa - c1) * 3 := by rw [wdCs_length, List.length_drop, List.length_take, Nat.min_eq_left (by omega)]
    have hm1 : (strV (Ns.take c1)).length = c1 * 1 := by rw [strV_length, List.length_take, Nat.min_eq_left (by omega), Nat.mul_one]
    have hm2 : (strV ((Ns.take pa).drop c1)).length = (pa - c1) * 1 := by rw [strV_length, List.length_drop, List.length_take, Nat.min_eq_left (by omega), Nat.mul_one]
    have hz1 : IntKind.i64.wrap ((pa : Int) - n) = (c0 : Int) := by rw [IntKind.wrap_i64]; omega
    have hz2 : IntKind.i64.wrap ((c0 : Int) + 1) = (c1 : Int) := by rw [IntKind.wrap_i64]; omega
    have hz3 : IntKind.i64.wrap ((n : Int) - 1) = (n : Int) - 1 := by rw [IntKind.wrap_i64]; omega
    have hz4 : IntKind.i64.wrap ((pa : Int) - ((n : Int) - 1)) = (c1 : Int) := by rw [IntKind.wrap_i64]; omega
    have hz5 : IntKind.i64.wrap ((c1 : Int) - 1) = (c0 : Int) := by rw [IntKind.wrap_i64]; omega
    obtain ⟨c2, hc2⟩ : ∃ c2, c2 = c1 + 1 := ⟨_, rfl⟩
    have hz6 : IntKind.i64.wrap ((c1 : Int) + 1) = (c2 : Int) := by rw [IntKind.wrap_i64]; omega
    obtain ⟨L1, hL1⟩ : ∃ L1, L1 = L - (pa - c1) := ⟨_, rfl⟩
    have hi0 : (0 : Int) ≤ c0 := by omega
    have hi1 : (0 : Int) ≤ c1 := by omega
    have hi2 : (c0 : Int) < L1 := by omega
    have hi3 : (c1 : Int) < L1 := by omega
    have HZ := Lib.hid (And.intro (And.intro hc0 (And.intro hc1 (And.intro hc2 hL1))) (And.intro hn1 (And.intro hn2 (And.intro hn3 (And.intro hlen (And.intro hbn (And.intro hwl hnl)))))))
    have HA := Lib.hid (And.intro (And.intro hza (And.intro hzam hqa)) (And.intro hzb (And.intro hzbm hqb)))
    have HSP := Lib.hid (And.intro (And.intro hsp (And.intro hl1 hl2)) (And.intro hsn (And.intro hm1 hm2)))
    have HCL := Lib.hid (And.intro hCl hDl)
    clear hU hdl hlen hbn hc0 hc1 hc2 hL1 hCl hDl hza hzam hqa hzb hzbm hqb hsp hl1 hl2 hsn hm1 hm2 hwl hnl hn1 hn2 hn3 hNT hbad
    go_wp2_with fail
    with_reducible refine (HC.out).mono ?_
    clear HC
    rintro e w2 ⟨rfl, HJ, HKZ⟩
    obtain ⟨dA2, dn2, dc2, D2, hH2, hcase⟩ := HJ.out
    have HH2 := Lib.hid hH2
    have HCS := Lib.hid hcase
    have HUL2 : Hid (UL w2 w0.heap.size AA L ac Ws NA nc Ns K0 (i + 1)) := Lib.hid (HU.out.ul.keep (HKZ.out.kx.mono (Nat.zero_le _) (fun _ h => h)) (by decide) (by decide) (by decide) (by decide) (by decide) (by decide) (by decide)).more
    have HB2 : Hid (Below w0.heap.size w0 w2) := Lib.hid (HU.out.bel.trans (HKZ.out.toBelow HU.out.bel.size))
    have HD1 := Lib.hid (delW_any AA L ac c1 pa w0.heap.size _ _ _ w2 (by rw [← HSP.out.1.1]; exact HUL2.out.own) HSP.out.1.2.1 HSP.out.1.2.2 (by have := HZ.out; omega) (by have := HZ.out; omega) (by have := HZ.out; omega) (wdCs_oneCell _))
    clear hH2 hcase HJ
    go_wp2_with fail
    with_reducible refine (HD1.out).mono ?_
    clear HD1
    rintro e w3 ⟨rfl, HW3⟩
    rw [← HZ.out.1.2.2.2]
    have HNO3 : Hid (OwnO w3 w0.heap.size 9 1 NA L nc (strV Ns)) := Lib.hid (HUL2.out.nown.keep (HW3.out.2.1.mono (Nat.zero_le _) (fun _ h => h)) (by decide))
    have HD2 := Lib.hid (delS_any NA L nc c1 pa w0.heap.size _ _ _ w3 (by rw [← HSP.out.2.1]; exact HNO3.out) HSP.out.2.2.1 HSP.out.2.2.2 (by have := HZ.out; omega) (by have := HZ.out; omega) (by have := HZ.out; omega) (strV_oneCell _))
    go_wp2_with fail
    with_reducible refine (HD2.out).mono ?_
    clear HD2
    rintro e w4 ⟨rfl, HW4⟩
    rw [← HZ.out.1.2.2.2]
    have hna : OwnO w4 w0.heap.size 9 1 NA L1 nc (strV (Ns.take c1 ++ Ns.drop pa)) := by rw [HZ.out.1.2.2.2, strV_app2]; exact HW4.out.1
    have haa : OwnO w4 w0.heap.size 52 3 AA L1 ac (wdCs (Ws.take c1 ++ Ws.drop pa)) := by rw [HZ.out.1.2.2.2, wdCs_app]; exact HW3.out.1.keep (HW4.out.2.1.mono (Nat.zero_le _) (fun _ h => h)) (by decide)
    have hL0 : 0 < L1 := by have := HZ.out; omega
    obtain ⟨nb, no, ncur, rfl, nb1, nb2, nb3, nb4, nb5, nb6⟩ := hna.at_ hL0
    have hcs : (w4.cell? ⟨nb, no + c1, none⟩).isSome = true := by rw [nb2.cell, Array.getElem?_eq_getElem (by have := HZ.out; omega)]; rfl
    obtain ⟨uo, huo⟩ := Option.isSome_iff_exists.1 hcs
    have hfo := nb2.frozen (no + c1)
    obtain ⟨w5, hw5⟩ : ∃ w5, w5 = w4.setCell ⟨nb, no + c1, none⟩ (.string nm) := ⟨_, rfl⟩
    have hk45 : Kx w0.heap.size [9] w4 w5 := by rw [hw5]; exact Kx.refl.set nb2 nb1 (by simp) _ _
    have hkz5 : Kz5 w0.heap.size [52, 9] w2 w5 := by
      refine Kz5.trans (Kz5.trans ⟨HW3.out.2.2.1, HW3.out.2.2.2.1, HW3.out.2.2.2.2, HW3.out.2.1.mono (Nat.le_refl _) (fun t h => by simp at h; simp [h])⟩ ⟨HW4.out.2.2.1, HW4.out.2.2.2.1, HW4.out.2.2.2.2, HW4.out.2.1.mono (Nat.le_refl _) (fun t h => by simp at h; simp [h])⟩) ⟨?_, ?_, ?_, hk45.mono (Nat.le_refl _) (fun t h => by simp at h; simp [h])⟩ <;> (rw [hw5]; rfl)
    have hno5 : OwnO w5 w0.heap.size 9 1 (some ⟨nb, no, none⟩) L1 nc (strV ((Ns.take c1 ++ Ns.drop pa).set c1 nm)) := by rw [strV_set, hw5]; exact hna.set1 (by have := HZ.out; omega) _
    have hao5 : OwnO w5 w0.heap.size 52 3 AA L1 ac (wdCs (Ws.take c1 ++ Ws.drop pa)) := haa.keep (hk45.mono (Nat.zero_le _) (fun _ h => h)) (by decide)
    have hk50 : Kx 0 [52, 9] w2 w5 := hkz5.kx.mono (Nat.zero_le _) (fun _ h => h)
    have hul5 : UL w5 w0.heap.size AA L1 ac (Ws.take c1 ++ Ws.drop pa) (some ⟨nb, no, none⟩) nc ((Ns.take c1 ++ Ns.drop pa).set c1 nm) K0 (i + 1) := ⟨hao5, hno5, fun x hx => by
      have hx' : x ∈ Ws := (List.mem_append.1 hx).elim (fun h => List.mem_of_mem_take h) (fun h => List.mem_of_mem_drop h)
      exact ⟨(HUL2.out.y x hx').1.keep hk50 (by decide) (by decide) (by decide) (by decide) (by decide), (HUL2.out.y x hx').2⟩⟩
    have hhy5 := HH2.out.keepx hk50 (by decide) (by decide) (by decide) (by decide) (by decide) (by decide) (by decide) (by decide)
    have hb5 : Below w0.heap.size w0 w5 := HB2.out.trans (hkz5.toBelow HB2.out.size)
    have hga : (Ws.take c1 ++ Ws.drop pa)[c0]? = some za := by rw [get_take_app _ _ _ _ (by have := HZ.out; omega), if_pos (by have := HZ.out; omega)]; exact HA.out.1.1
    have hgb : (Ws.take c1 ++ Ws.drop pa)[c1]? = some zb := by rw [get_take_app _ _ _ _ (by have := HZ.out; omega), if_neg (by omega), Nat.sub_self, List.getElem?_drop, Nat.add_zero]; exact HA.out.2.1
    obtain ⟨b, o, rfl, hbw, p0, p1, p2⟩ := hul5.own.rdy.rd.wd (by have := HZ.out; omega) hga
    obtain ⟨b', o', e', _, r0, r1, r2⟩ := hul5.own.rdy.rd.wd (by have := HZ.out; omega) hgb
    injection e' with e'
    injection e' with e1 e2
    subst e1 e2
    have hS5 : ∀ wz, Below w5.heap.size w5 wz → wz.cell? ⟨b, o + c0 * 3, none⟩ = some (.slice za.kA za.kn za.kc) ∧ wz.cell? ⟨b, o + c0 * 3 + 1, none⟩ = some (.slice za.gA za.gn za.gc) ∧ wz.cell? ⟨b, o + c0 * 3 + 2, none⟩ = some (.slice za.iA za.im za.ic) ∧ wz.cell? ⟨b, o + c1 * 3, none⟩ = some (.slice zb.kA zb.kn zb.kc) ∧ wz.cell? ⟨b, o + c1 * 3 + 1, none⟩ = some (.slice zb.gA zb.gn zb.gc) ∧ wz.cell? ⟨b, o + c1 * 3 + 2, none⟩ = some (.slice zb.iA zb.im zb.ic) := fun wz hz => ⟨(World.cell?_of_block (w := w5) (hz.block b hbw)).trans p0, (World.cell?_of_block (w := w5) (hz.block b hbw)).trans p1, (World.cell?_of_block (w := w5) (hz.block b hbw)).trans p2, (World.cell?_of_block (w := w5) (hz.block b hbw)).trans r0, (World.cell?_of_block (w := w5) (hz.block b hbw)).trans r1, (World.cell?_of_block (w := w5) (hz.block b hbw)).trans r2⟩
    have s5 := hS5 w5.drew ((Below.refl _ _).drew)
    have hzy := (HUL2.out.y za HA.out.1.2.1).1.keep hk50 (by decide) (by decide) (by decide) (by decide) (by decide)
    have hzy2 := (HUL2.out.y zb HA.out.2.2.1).1.keep hk50 (by decide) (by decide) (by decide) (by decide) (by decide)
    obtain ⟨sm, hsm⟩ : ∃ sm, sm = decide (za.p = zb.p) := ⟨_, rfl⟩
    have HSM : Hid (∀ wz, Below w5.heap.size w5 wz → Calls Try.prog 38 #[.agg #[.slice za.kA za.kn za.kc, .slice za.gA za.gn za.gc, .slice za.iA za.im za.ic], .agg #[.slice zb.kA zb.kn zb.kc, .slice zb.gA zb.gn zb.gc, .slice zb.iA zb.im zb.ic]] wz fun e w' => e = .returned (.bool sm) ∧ Below wz.heap.size wz w') := Lib.hid (fun wz hz => by
      have := wsame_any (hzy.ok_.below hz) (hzy2.ok_.below hz)
      rw [← hsm] at this; exact this)
    have HS5 := Lib.hid hS5
    have HSS := Lib.hid hsm
    have HUL5 := Lib.hid hul5
    have HHY5 := Lib.hid hhy5
    have HB5 := Lib.hid hb5
    have HW5 := Lib.hid hw5
    have HKZ5 := Lib.hid hkz5
    clear hna haa nb1 nb2 nb3 nb4 nb5 nb6 hcs hw5 hk45 hkz5 hno5 hao5 hk50 hul5 hhy5 hb5 hga hgb p0 p1 p2 r0 r1 r2 hbw hS5 hzy hzy2 hsm HUL2 HNO3
    go_upto_region 49 with fail
    rw [← HW5.out]
    clear HW5 huo hfo
    go_upto_if 217 with fail
    go_cut [217] from 208 to 216 (fun bv wx => bv = .bool sm ∧ Hid (Below w5.heap.size w5 wx))
    case first =>
      refine wp_region_noPanic ?_
      refine wp_region_H (S := fun wz => wz.cell? ⟨b, o + c0 * 3, none⟩ = some (.slice za.kA za.kn za.kc) ∧ wz.cell? ⟨b, o + c0 * 3 + 1, none⟩ = some (.slice za.gA za.gn za.gc) ∧ wz.cell? ⟨b, o + c0 * 3 + 2, none⟩ = some (.slice za.iA za.im za.ic) ∧ wz.cell? ⟨b, o + c1 * 3, none⟩ = some (.slice zb.kA zb.kn zb.kc) ∧ wz.cell? ⟨b, o + c1 * 3 + 1, none⟩ = some (.slice zb.gA zb.gn zb.gc) ∧ wz.cell? ⟨b, o + c1 * 3 + 2, none⟩ = some (.slice zb.iA zb.im zb.ic)) (by kernel_rfl) ?_
      refine wpAnyH_val (i := 0) (v := .slice (some ⟨b, o, none⟩) L1 ac) (d := some 208) rfl rfl (by kernel_rfl) (by kernel_rfl) (by kernel_rfl) (fun _ _ _ h => h) (Or.inl ⟨by rfl, fun w hS => by (obtain ⟨h0, h1, h2, h3, h4, h5⟩ := hS; go_simp)⟩) s5 ?_
      (try simp only [Act.put, List.setIfInBounds_toArray, List.set_cons_zero, List.set_cons_succ])
      refine wpAnyH_val (i := 1) (v := .int .i64 c1) (d := some 209) rfl rfl (by kernel_rfl) (by kernel_rfl) (by kernel_rfl) (fun _ _ _ h => h) (Or.inl ⟨by rfl, fun w hS => by (obtain ⟨h0, h1, h2, h3, h4, h5⟩ := hS; go_simp)⟩) s5 ?_
      (try simp only [Act.put, List.setIfInBounds_toArray, List.set_cons_zero, List.set_cons_succ])
      refine wpAnyH_val (i := 2) (v := .int .i64 c0) (d := some 210) rfl rfl (by kernel_rfl) (by kernel_rfl) (by kernel_rfl) (fun _ _ _ h => h) (Or.inl ⟨by rfl, fun w hS => by (obtain ⟨h0, h1, h2, h3, h4, h5⟩ := hS; go_simp)⟩) s5 ?_
      (try simp only [Act.put, List.setIfInBounds_toArray, List.set_cons_zero, List.set_cons_succ])
      refine wpAnyH_val (i := 3) (v := .pointer (some ⟨b, o + c0 * 3, none⟩)) (d := some 211) rfl rfl (by kernel_rfl) (by kernel_rfl) (by kernel_rfl) (fun _ _ _ h => h) (Or.inl ⟨by rfl, fun w hS => by (obtain ⟨h0, h1, h2, h3, h4, h5⟩ := hS; go_simp)⟩) s5 ?_
      (try simp only [Act.put, List.setIfInBounds_toArray, List.set_cons_zero, List.set_cons_succ])
      refine wpAnyH_val (i := 4) (v := .agg #[.slice za.kA za.kn za.kc, .slice za.gA za.gn za.gc, .slice za.iA za.im za.ic]) (d := some 212) rfl rfl (by kernel_rfl) (by kernel_rfl) (by kernel_rfl) (fun _ _ _ h => h) (Or.inl ⟨by rfl, fun w hS => by (obtain ⟨h0, h1, h2, h3, h4, h5⟩ := hS; go_simp)⟩) s5 ?_
      (try simp only [Act.put, List.setIfInBounds_toArray, List.set_cons_zero, List.set_cons_succ])
      refine wpAnyH_val (i := 5) (v := .slice (some ⟨b, o, none⟩) L1 ac) (d := some 213) rfl rfl (by kernel_rfl) (by kernel_rfl) (by kernel_rfl) (fun _ _ _ h => h) (Or.inl ⟨by rfl, fun w hS => by (obtain ⟨h0, h1, h2, h3, h4, h5⟩ := hS; go_simp)⟩) s5 ?_
      (try simp only [Act.put, List.setIfInBounds_toArray, List.set_cons_zero, List.set_cons_succ])
      refine wpAnyH_val (i := 6) (v := .int .i64 c1) (d := some 214) rfl rfl (by kernel_rfl) (by kernel_rfl) (by kernel_rfl) (fun _ _ _ h => h) (Or.inl ⟨by rfl, fun w hS => by (obtain ⟨h0, h1, h2, h3, h4, h5⟩ := hS; go_simp)⟩) s5 ?_
      (try simp only [Act.put, List.setIfInBounds_toArray, List.set_cons_zero, List.set_cons_succ])
      refine wpAnyH_val (i := 7) (v := .pointer (some ⟨b, o + c1 * 3, none⟩)) (d := some 215) rfl rfl (by kernel_rfl) (by kernel_rfl) (by kernel_rfl) (fun _ _ _ h => h) (Or.inl ⟨by rfl, fun w hS => by (obtain ⟨h0, h1, h2, h3, h4, h5⟩ := hS; go_simp)⟩) s5 ?_
      (try simp only [Act.put, List.setIfInBounds_toArray, List.set_cons_zero, List.set_cons_succ])
      refine wpAnyH_val (i := 8) (v := .agg #[.slice zb.kA zb.kn zb.kc, .slice zb.gA zb.gn zb.gc, .slice zb.iA zb.im zb.ic]) (d := some 216) rfl rfl (by kernel_rfl) (by kernel_rfl) (by kernel_rfl) (fun _ _ _ h => h) (Or.inl ⟨by rfl, fun w hS => by (obtain ⟨h0, h1, h2, h3, h4, h5⟩ := hS; go_simp)⟩) s5 ?_
      (try simp only [Act.put, List.setIfInBounds_toArray, List.set_cons_zero, List.set_cons_succ])
      refine wpAnyH_oneW (i := 9) rfl (by kernel_rfl) (by rfl) ?_
      go_simp
      go_at_call 38
      (with_reducible refine (HSM.out _ ?hb).mono ?_)
      case hb => (repeat' first | exact Below.refl _ _ | refine Below.drew ?_)
      rintro e w6 ⟨rfl, hb6⟩
      have hB6 : Below w5.heap.size w5 w6 := Below.tr (by repeat' first | exact Below.refl _ _ | refine Below.drew ?_) hb6
      refine And.intro (HS5.out _ hB6) ?_
      (try simp only [Act.put, List.setIfInBounds_toArray, List.set_cons_zero, List.set_cons_succ])
      refine wpAnyH_done (by kernel_rfl) ?_ _
      refine NoPanic.normal ?_
      go_wp2_with fail
      go_meet
      case rel => exact ⟨rfl, Lib.hid hB6⟩
    case rest =>
      obtain ⟨rfl, HB6⟩ := hcut
      obtain ⟨wu, rfl⟩ : ∃ q, q = wc := ⟨_, rfl⟩
      have hul6 : UL wu w0.heap.size (some ⟨b, o, none⟩) L1 ac (Ws.take c1 ++ Ws.drop pa) (some ⟨nb, no, none⟩) nc ((Ns.take c1 ++ Ns.drop pa).set c1 nm) K0 (i + 1) := HUL5.out.keep (Kx.of_below (B := 0) (F := []) HB6.out) (by simp) (by simp) (by simp) (by simp) (by simp) (by simp) (by simp)
      have HH6 := Lib.hid (HHY5.out.below HB6.out)
      have HBL6 : Hid (Below w0.heap.size w0 wu) := Lib.hid (HB5.out.trans (HB6.out.mono HB5.out.size))
      have HUL6 := Lib.hid hul6
      have HWL : Hid ((Ws.take c1 ++ Ws.drop pa).length = L1 ∧ ((Ns.take c1 ++ Ns.drop pa).set c1 nm).length = L1) := Lib.hid ⟨by have := hul6.own.1; rw [wdCs_length] at this; omega, by have := hul6.nown.1; rw [strV_length] at this; omega⟩
      have hcc : C.length + 1 = c1 := by rw [HCL.out.1]; exact HZ.out.1.2.1.symm
      have hzaC : Ws[C.length]? = some za := by rw [HCL.out.1]; exact HA.out.1.1
      have hd0 : 0 < D1.length := by have := HCL.out.2; have := HZ.out.2.1; omega
      cases sm with
      | false =>
        have hne : za.p ≠ zb.p := of_decide_eq_false HSS.out.symm
        rcases HCS.out with ⟨h1, _⟩ | ⟨_, s, rfl, hs1, hs2, hs3⟩
        · rw [HA.out.1.2.2, HA.out.2.2.2] at h1
          exact absurd h1 hne
        · rw [HA.out.1.2.2, HA.out.2.2.2] at hs2 hs3
          have hj := HU.out.join1 (s := s) hd0 hzaC HA.out.2.1 hs2 hs3
          rw [hcc, hs1] at hj
          have hdn : dn2 = c1 := by have := HH6.out.d.len; rw [List.length_append, List.length_singleton, hcc] at this; exact this
          subst hdn
          have HV : Hid (US w0 wu hb (some ⟨b, o, none⟩) (some ⟨nb, no, none⟩) L1 ac nc dn2 K0 (i + 1) (Ws.take dn2 ++ Ws.drop pa) ((Ns.take dn2 ++ Ns.drop pa).set dn2 nm) now dA2 gA dc2 gn gc (C ++ [s]) G) := Lib.hid ⟨HUL6.out, HH6.out, hj, by
            rw [List.getElem?_map, get_take_app _ _ _ _ (by have := HZ.out; omega), if_neg (by omega), Nat.sub_self, List.getElem?_drop, Nat.add_zero, HA.out.2.1, HA.out.2.2.2]; rfl, by have := HZ.out; omega, by have := HZ.out; omega, HBL6.out⟩
          clear hul6 hcc hzaC hd0 hne hs1 hs2 hs3 hj
          go_wp2_with fail
          exact hN _ _ _ _ _ _ _ _ _ _ _ _ _ _ _ _ _ _ _ _ _ _ _ _ _ _ _ _ _ _ _ _ _ _ _ _ _ _ _ _ _ _ _ _ _ _ _ _ _ _ _ _ _ _ _ _ _ _ _ _ _ _ _ _ _ L1 dn2 _ (Lib.hid ⟨_, _, _, _, _, _, _, _, _, _, HV.out⟩)
      | true =>
        have hsame : za.p = zb.p := of_decide_eq_true HSS.out.symm
        rcases HCS.out with ⟨_, h2⟩ | ⟨h1, _⟩
        · subst h2
          have hj := HU.out.join1 (s := ⟨nm, none, 0, 0, encD za.p zb.p, none, 0, 0, encD zb.p za.p⟩) hd0 hzaC HA.out.2.1 rfl rfl
          have hp0 : ((Ws.take c1 ++ Ws.drop pa).map Wd.p)[c0]? = some za.p := by
            rw [List.getElem?_map, get_take_app _ _ _ _ (by have := HZ.out; omega), if_pos (by have := HZ.out; omega), HA.out.1.1]; rfl
          have hp1 : ((Ws.take c1 ++ Ws.drop pa).map Wd.p)[c1]? = some zb.p := by
            rw [List.getElem?_map, get_take_app _ _ _ _ (by have := HZ.out; omega), if_neg (by omega), Nat.sub_self, List.getElem?_drop, Nat.add_zero, HA.out.2.1]; rfl
          have hj2 := hj.skip (C := C) (E := G.reverse) (by rw [hcc, HCL.out.1, hp0, hp1, hsame])
          rw [show C.length + 2 = c2 by have := HZ.out; omega, hcc] at hj2
          obtain ⟨V, hV⟩ : ∃ V, V = Ws.take c1 ++ Ws.drop pa := ⟨_, rfl⟩
          obtain ⟨M, hM⟩ : ∃ M, M = (Ns.take c1 ++ Ns.drop pa).set c1 nm := ⟨_, rfl⟩
          rw [← hV] at hj2 hp0 hp1
          rw [← hM] at hj2
          have hVl : V.length = L1 := by rw [hV]; exact HWL.out.1
          have hMl : M.length = L1 := by rw [hM]; exact HWL.out.2
          have HU6 : Hid (UL wu w0.heap.size (some ⟨b, o, none⟩) L1 ac V (some ⟨nb, no, none⟩) nc M K0 (i + 1)) := Lib.hid (by rw [hV, hM]; exact HUL6.out)
          have ha1 : (wdCs (V.take c1)).length = c1 * 3 := by rw [wdCs_length, List.length_take, Nat.min_eq_left (by have := HZ.out; omega)]
          have ha2 : (wdCs ((V.take c2).drop c1)).length = (c2 - c1) * 3 := by rw [wdCs_length, List.length_drop, List.length_take, Nat.min_eq_left (by have := HZ.out; omega)]
          have hb1 : (strV (M.take c1)).length = c1 * 1 := by rw [strV_length, List.length_take, Nat.min_eq_left (by have := HZ.out; omega), Nat.mul_one]
          have hb2 : (strV ((M.take c2).drop c1)).length = (c2 - c1) * 1 := by rw [strV_length, List.length_drop, List.length_take, Nat.min_eq_left (by have := HZ.out; omega), Nat.mul_one]
          have hc12 : c1 ≤ c2 := by have := HZ.out; omega
          have hsV : wdCs V = wdCs (V.take c1) ++ wdCs ((V.take c2).drop c1) ++ wdCs (V.drop c2) := by rw [← wdCs_app, ← wdCs_app, ← split3 V hc12]
          have hsM : strV M = strV (M.take c1) ++ strV ((M.take c2).drop c1) ++ strV (M.drop c2) := by rw [← strV_app2, ← strV_app2, ← split3 M hc12]
          have HD3 := Lib.hid (delW_any (some ⟨b, o, none⟩) L1 ac c1 c2 w0.heap.size _ _ _ wu (by rw [← hsV]; exact HU6.out.own) ha1 ha2 hc12 (by have := HZ.out; omega) (by have := HZ.out; omega) (wdCs_oneCell _))
          have HSM2 := Lib.hid (And.intro hsM (And.intro hb1 hb2))
          have HJ2 := Lib.hid (And.intro hj2 hp0)
          have HVL := Lib.hid (And.intro hVl hMl)
          obtain ⟨L2, hL2⟩ : ∃ L2, L2 = L1 - (c2 - c1) := ⟨_, rfl⟩
          have HL2 := Lib.hid hL2
          clear hul6 hcc hzaC hd0 hsame hj hp0 hp1 hj2 hV hM hVl hMl ha1 ha2 hb1 hb2 hsV hsM hL2
          go_wp2_with fail
          with_reducible refine (HD3.out).mono ?_
          clear HD3
          rintro e w7 ⟨rfl, HW7⟩
          rw [← HL2.out]
          have HNO7 : Hid (OwnO w7 w0.heap.size 9 1 (some ⟨nb, no, none⟩) L1 nc (strV M)) := Lib.hid (HU6.out.nown.keep (HW7.out.2.1.mono (Nat.zero_le _) (fun _ h => h)) (by decide))
          have HD4 := Lib.hid (delS_any (some ⟨nb, no, none⟩) L1 nc c1 c2 w0.heap.size _ _ _ w7 (by rw [← HSM2.out.1]; exact HNO7.out) HSM2.out.2.1 HSM2.out.2.2 hc12 (by have := HZ.out; omega) (by have := HZ.out; omega) (strV_oneCell _))
          go_wp2_with fail
          with_reducible refine (HD4.out).mono ?_
          clear HD4
          rintro e w8 ⟨rfl, HW8⟩
          rw [← HL2.out]
          have hkz : Kz5 w0.heap.size [52, 9] wu w8 := Kz5.trans ⟨HW7.out.2.2.1, HW7.out.2.2.2.1, HW7.out.2.2.2.2, HW7.out.2.1.mono (Nat.le_refl _) (fun t h => by simp at h; simp [h])⟩ ⟨HW8.out.2.2.1, HW8.out.2.2.2.1, HW8.out.2.2.2.2, HW8.out.2.1.mono (Nat.le_refl _) (fun t h => by simp at h; simp [h])⟩
          have hk0 : Kx 0 [52, 9] wu w8 := hkz.kx.mono (Nat.zero_le _) (fun _ h => h)
          have hh8 := HH6.out.keepx hk0 (by decide) (by decide) (by decide) (by decide) (by decide) (by decide) (by decide) (by decide)
          have hdn : dn2 = c0 := by have := hh8.d.len; rw [List.append_nil, HCL.out.1] at this; exact this
          subst hdn
          have HV : Hid (US w0 w8 hb (some ⟨b, o, none⟩) (some ⟨nb, no, none⟩) L2 ac nc dn2 K0 (i + 1) (V.take c1 ++ V.drop c2) (M.take c1 ++ M.drop c2) now dA2 gA dc2 gn gc (C ++ []) G) := Lib.hid ⟨⟨by rw [HL2.out, wdCs_app]; exact HW7.out.1.keep (HW8.out.2.1.mono (Nat.zero_le _) (fun _ h => h)) (by decide), by rw [HL2.out, strV_app2]; exact HW8.out.1, fun x hx => by
              have hx' : x ∈ V := (List.mem_append.1 hx).elim (fun h => List.mem_of_mem_take h) (fun h => List.mem_of_mem_drop h)
              exact ⟨(HU6.out.y x hx').1.keep hk0 (by decide) (by decide) (by decide) (by decide) (by decide), (HU6.out.y x hx').2⟩⟩, hh8, by rw [List.append_nil, List.map_append, List.map_take, List.map_drop]; exact HJ2.out.1, by
            have := HJ2.out.2
            rw [List.getElem?_map] at this ⊢
            rw [get_take_app _ _ _ _ (by have := HVL.out; have := HZ.out; omega), if_pos (by have := HZ.out; omega), this]
            exact congrArg some ((of_decide_eq_true HSS.out.symm : za.p = zb.p).trans HA.out.2.2.2.symm), by have := HZ.out; have := HL2.out; omega, by have := HZ.out; omega, HBL6.out.trans (hkz.toBelow HBL6.out.size)⟩
          clear hkz hk0 hh8
          go_wp2_with fail
          exact hN _ _ _ _ _ _ _ _ _ _ _ _ _ _ _ _ _ _ _ _ _ _ _ _ _ _ _ _ _ _ _ _ _ _ _ _ _ _ _ _ _ _ _ _ _ _ _ _ _ _ _ _ _ _ _ _ _ _ _ _ _ _ _ _ _ L2 dn2 _ (Lib.hid ⟨_, _, _, _, _, _, _, _, _, _, HV.out⟩)
        · rw [HA.out.1.2.2, HA.out.2.2.2] at h1
          exact absurd hsame h1

end Go.Proofs.Ytnidcmhfbkdioaa
