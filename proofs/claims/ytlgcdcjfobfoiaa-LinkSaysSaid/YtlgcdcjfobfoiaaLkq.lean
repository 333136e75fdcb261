/-
  The arm of foreign packets in the law LinkSays. Conditions: fewer than 60 rounds.
-/
import Derived.Test.YtlgcdcjfobfoiaaLkm
namespace Go.Proofs.Ytlgcdcjfobfoiaa
open Go.RowKit
set_option maxRecDepth 100000

set_option maxHeartbeats 6000000 in
theorem lsRaw_any {x0 x2 x3 x4 x11 x12 x13 x14 x15 x16 x17 x18 x19 x20 x21 x22 x23 x24 x25 x26 x27 x28 x29 x30 x31 x32 x33 x34 x35 x36 x37 x38 x39 x40 x41 x42 x43 x44 x45 x46 x47 x48 x49 x50 x51 x52 x53 x54 x55 x56 x57 x58 x59 x60 x61 x62 x63 x64 x65 x66 x67 x68 x69 x70 x71 x72 x73 x74 x75 x76 x77 x78 x79 x80 x81 x82 x83 x84 x85 x86 x87 x88 x89 x90 x91 x92 x93 x94 x95 x96 x97 x98 x99 x100 x101 x102 x103 x104 x105 x106 x107 x108 x109 x110 x111 x112 x113 x114 x115 x116 x117 x118 x119 x120 x121 x122 x123 x124 x125 x126 x127 x128 x129 x130 x131 x132 x133 x134 x135 x136 x137 x138 x139 x140 x141 x142 x143 x144 x145 x146 x147 x148 x149 x150 x151 x152 x153 x154 x155 x156 x157 x158 x159 x160 x161 x162 x163 x164 x165 x166 x167 x168 x169 x170 x171 x172 x173 x174 x175 x176 x177 x178 x179 x180 x181 x182 x183 x184 x185 x186 x187 x188 x189 x190 x191 x192 x193 x194 x195 x196 x197 x198 x199 x200 x201 x202 x203 x204 x205 x206 x207 x208 x209 x210 x211 x212 x213 x214 x215 x216 x217 x218 x219 x220 x221 x222 x223 x224 x225 x226 x227 x228 x229 x230 x231 x232 x233 x234 x235 x236 : Value} {Q : Exit → Act → World → Prop} {RA : Option Addr} {rn rc be bm ba k who : Nat} {z : Int} {raw : List Nat} {w wr : World} {D : Nat → Sd} (hk60 : k < 60) (hw2 : who < 2) (HI : Hid (LsI w wr be bm ba k D)) (HR : Hid (Rd w w.heap.size 1 RA rn (bytesV raw))) (HRN : Hid (rn = raw.length)) (HRC : Hid (rn ≤ rc ∧ rc ≤ 9223372036854775807)) (HRL : Hid (∀ (b : Nat), b ∈ raw → b < 256))
    (hN : ∀ (y168 y169 y170 y171 y172 y173 y174 y175 y176 y177 y178 y179 y180 : Value) (w' : World), (∃ D', Hid (LsI w w' be bm ba (k + 1) D')) → Q .normal ⟨#[x0, .slice RA rn rc, x2, x3, x4, .slice (some ⟨be, 0, none⟩) 2 2, .slice (some ⟨bm, 0, none⟩) 2 2, .pointer (some ⟨ba, 0, none⟩), .int .i64 k, .int .i64 z, .int .i64 who, x11, x12, x13, x14, x15, x16, x17, x18, x19, x20, x21, x22, x23, x24, x25, x26, x27, x28, x29, x30, x31, x32, x33, x34, x35, x36, x37, x38, x39, x40, x41, x42, x43, x44, x45, x46, x47, x48, x49, x50, x51, x52, x53, x54, x55, x56, x57, x58, x59, x60, x61, x62, x63, x64, x65, x66, x67, x68, x69, x70, x71, x72, x73, x74, x75, x76, x77, x78, x79, x80, x81, x82, x83, x84, x85, x86, x87, x88, x89, x90, x91, x92, x93, x94, x95, x96, x97, x98, x99, x100, x101, x102, x103, x104, x105, x106, x107, x108, x109, x110, x111, x112, x113, x114, x115, x116, x117, x118, x119, x120, x121, x122, x123, x124, x125, x126, x127, x128, x129, x130, x131, x132, x133, x134, x135, x136, x137, x138, x139, x140, x141, x142, x143, x144, x145, x146, x147, x148, x149, x150, x151, x152, x153, x154, x155, x156, x157, x158, x159, x160, x161, x162, x163, x164, x165, x166, x167, y168, y169, y170, y171, y172, y173, y174, y175, y176, y177, y178, y179, y180, x181, x182, x183, x184, x185, x186, x187, x188, x189, x190, x191, x192, x193, x194, x195, x196, x197, x198, x199, x200, x201, x202, x203, x204, x205, x206, x207, x208, x209, x210, x211, x212, x213, x214, x215, x216, x217, x218, x219, x220, x221, x222, x223, x224, x225, x226, x227, x228, x229, x230, x231, x232, x233, x234, x235, x236], []⟩ w')
    : Code.wp Try.prog lsRaw Q ⟨#[x0, .slice RA rn rc, x2, x3, x4, .slice (some ⟨be, 0, none⟩) 2 2, .slice (some ⟨bm, 0, none⟩) 2 2, .pointer (some ⟨ba, 0, none⟩), .int .i64 k, .int .i64 z, .int .i64 who, x11, x12, x13, x14, x15, x16, x17, x18, x19, x20, x21, x22, x23, x24, x25, x26, x27, x28, x29, x30, x31, x32, x33, x34, x35, x36, x37, x38, x39, x40, x41, x42, x43, x44, x45, x46, x47, x48, x49, x50, x51, x52, x53, x54, x55, x56, x57, x58, x59, x60, x61, x62, x63, x64, x65, x66, x67, x68, x69, x70, x71, x72, x73, x74, x75, x76, x77, x78, x79, x80, x81, x82, x83, x84, x85, x86, x87, x88, x89, x90, x91, x92, x93, x94, x95, x96, x97, x98, x99, x100, x101, x102, x103, x104, x105, x106, x107, x108, x109, x110, x111, x112, x113, x114, x115, x116, x117, x118, x119, x120, x121, x122, x123, x124, x125, x126, x127, x128, x129, x130, x131, x132, x133, x134, x135, x136, x137, x138, x139, x140, x141, x142, x143, x144, x145, x146, x147, x148, x149, x150, x151, x152, x153, x154, x155, x156, x157, x158, x159, x160, x161, x162, x163, x164, x165, x166, x167, x168, x169, x170, x171, x172, x173, x174, x175, x176, x177, x178, x179, x180, x181, x182, x183, x184, x185, x186, x187, x188, x189, x190, x191, x192, x193, x194, x195, x196, x197, x198, x199, x200, x201, x202, x203, x204, x205, x206, x207, x208, x209, x210, x211, x212, x213, x214, x215, x216, x217, x218, x219, x220, x221, x222, x223, x224, x225, x226, x227, x228, x229, x230, x231, x232, x233, x234, x235, x236], []⟩ wr := by
  conv => arg 2; whnf
  have hwz : (who : Int) < 2 := by omega
  have hwz0 : (0 : Int) ≤ who := by omega
  obtain ⟨i5, hi5, hu0, hu1, hu2⟩ := info_parts T.info5
  obtain ⟨i30, hi30, hv0, hv1, hv2⟩ := info_parts T.info30
  have hS := HI.out.sd who hw2
  have hce := HI.out.cE hw2
  have hcm := HI.out.cM hw2
  obtain ⟨gg, hgg⟩ : ∃ gg, gg = (D who).g := ⟨_, rfl⟩
  obtain ⟨hh, hhh⟩ : ∃ hh, hh = (D who).h := ⟨_, rfl⟩
  rw [← hgg] at hce
  rw [← hhh] at hcm
  have HGG := Lib.hid hgg
  have HHH := Lib.hid hhh
  have HS := Lib.hid hS
  clear hgg hhh hS
  have HRD : Hid (∀ w', Fq (D who).F wr.drew w' → Rd w' w'.heap.size 1 RA rn (bytesV raw)) := Lib.hid fun w' hq => by
    have hb := HI.out.drew.bel.trans (hq.below (HI.out.fge hw2) HI.out.bel.size)
    exact (HR.out.below hb).more hb.size
  have hIw := HI.out.drew
  have hSd := hIw.sd who hw2
  obtain ⟨f', n', G', code, hin, htk, b1, b2, b3⟩ := in_tk (next := (D who).next) (G := (D who).G) raw hSd.fle
  have hi := in_any RA rn rc raw wr.drew hSd.en (HRD.out _ Fq.refl) HRN.out HRC.out.1 HRC.out.2 HRL.out hIw.bel.size (by rw [List.length_drop]; have := hSd.fle; have := hSd.sle; omega) (by have := hSd.nle; omega) (by have := hSd.gle; omega)
  rw [hin, ← HGG.out] at hi
  have HIN := Lib.hid hi
  have HTKR := Lib.hid htk
  have HIW := Lib.hid hIw
  have HBB := Lib.hid (And.intro b1 (And.intro b2 b3))
  have s5 : wr.drew.cell? ⟨be, who, none⟩ = some (.pointer (some ⟨gg, 0, none⟩)) ∧ wr.drew.cell? ⟨bm, who, none⟩ = some (.pointer (some ⟨hh, 0, none⟩)) := by
    have h1 := hIw.cE hw2
    have h2 := hIw.cM hw2
    rw [← HGG.out] at h1
    rw [← HHH.out] at h2
    exact ⟨h1, h2⟩
  clear hIw hSd hin htk b1 b2 b3 hi
  go_wp2_with fail
  go_region_held3 (fun w' => w'.cell? ⟨be, who, none⟩ = some (.pointer (some ⟨gg, 0, none⟩)) ∧ w'.cell? ⟨bm, who, none⟩ = some (.pointer (some ⟨hh, 0, none⟩)))
    (first | (with_reducible exact s5) | (with_reducible exact s6) | (with_reducible exact s7) | go_keep)
    (first
      | (go_at_call 48
         (with_reducible refine HIN.out.mono ?_)
         rintro e w6 ⟨F6, rfl, hE6, hs6, hq6⟩
         have s6 : w6.cell? ⟨be, who, none⟩ = some (.pointer (some ⟨gg, 0, none⟩)) ∧ w6.cell? ⟨bm, who, none⟩ = some (.pointer (some ⟨hh, 0, none⟩)) := by
           have h1 := HIW.out.arr hw2 hq6 (fun b hb => .inl hb) who
           exact ⟨h1.1.trans s5.1, h1.2.1.trans s5.2⟩
         have htk := take_any RA rn rc w6.heap.size raw w6 rfl ((HIW.out.sd who hw2).ha.fq hq6 fun x hx hx2 => (HIW.out.sd who hw2).dFH x hx2 hx) (HRD.out _ hq6) HRN.out HRC.out.1 HRC.out.2 HRL.out (Nat.le_trans HIW.out.bel.size hq6.size) (by have := (HIW.out.sd who hw2).sle; omega) (by have := (HIW.out.sd who hw2).nle; omega) (by have := (HIW.out.sd who hw2).gle; omega)
         rw [HTKR.out, ← HHH.out] at htk
         have HTK := Lib.hid htk
         have HE6 := Lib.hid hE6
         have HS6 := Lib.hid hs6
         have HQ6 := Lib.hid hq6
         clear htk hE6 hs6 hq6)
      | (go_at_call 49
         (with_reducible refine HTK.out.mono ?_)
         rintro e w7 ⟨H7, rfl, hH7, hs7, hq7⟩
         have s7 : w7.cell? ⟨be, who, none⟩ = some (.pointer (some ⟨gg, 0, none⟩)) ∧ w7.cell? ⟨bm, who, none⟩ = some (.pointer (some ⟨hh, 0, none⟩)) := by
           have h1 := HIW.out.arr (E := (D who).F ++ (D who).H) hw2 ((HQ6.out.wide fun x hx => List.mem_append_left _ hx).trans (hq7.wide (G := (D who).F ++ (D who).H) fun x hx => List.mem_append_right _ hx) (SubF.refl _ _)) (fun b hb => List.mem_append.1 hb) who
           exact ⟨h1.1.trans s5.1, h1.2.1.trans s5.2⟩
         have HH7 := Lib.hid hH7
         have HS7 := Lib.hid hs7
         have HQ7 := Lib.hid hq7
         clear hH7 hs7 hq7))
  go_wp2_with fail
  have hx1 := HE6.out
  have hx2 := HH7.out
  rw [HGG.out] at hx1
  rw [HHH.out] at hx2
  exact LsI.took HIW.out hw2 hx1 HS6.out HQ6.out hx2 HS7.out HQ7.out HBB.out.1 HBB.out.2.1 HBB.out.2.2
end Go.Proofs.Ytlgcdcjfobfoiaa
