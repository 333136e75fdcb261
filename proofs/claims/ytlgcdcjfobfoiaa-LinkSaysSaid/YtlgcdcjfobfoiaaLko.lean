/-
  The arm of Out in the law LinkSays. Conditions: fewer than 60 rounds.
-/
import Derived.Test.YtlgcdcjfobfoiaaLkm
namespace Go.Proofs.Ytlgcdcjfobfoiaa
open Go.RowKit
set_option maxRecDepth 100000

set_option maxHeartbeats 6000000 in
theorem lsOut_any {x0 x2 x3 x4 x11 x12 x13 x14 x15 x16 x17 x18 x19 x20 x21 x22 x23 x24 x25 x26 x27 x28 x29 x30 x31 x32 x33 x34 x35 x36 x37 x38 x39 x40 x41 x42 x43 x44 x45 x46 x47 x48 x49 x50 x51 x52 x53 x54 x55 x56 x57 x58 x59 x60 x61 x62 x63 x64 x65 x66 x67 x68 x69 x70 x71 x72 x73 x74 x75 x76 x77 x78 x79 x80 x81 x82 x83 x84 x85 x86 x87 x88 x89 x90 x91 x92 x93 x94 x95 x96 x97 x98 x99 x100 x101 x102 x103 x104 x105 x106 x107 x108 x109 x110 x111 x112 x113 x114 x115 x116 x117 x118 x119 x120 x121 x122 x123 x124 x125 x126 x127 x128 x129 x130 x131 x132 x133 x134 x135 x136 x137 x138 x139 x140 x141 x142 x143 x144 x145 x146 x147 x148 x149 x150 x151 x152 x153 x154 x155 x156 x157 x158 x159 x160 x161 x162 x163 x164 x165 x166 x167 x168 x169 x170 x171 x172 x173 x174 x175 x176 x177 x178 x179 x180 x181 x182 x183 x184 x185 x186 x187 x188 x189 x190 x191 x192 x193 x194 x195 x196 x197 x198 x199 x200 x201 x202 x203 x204 x205 x206 x207 x208 x209 x210 x211 x212 x213 x214 x215 x216 x217 x218 x219 x220 x221 x222 x223 x224 x225 x226 x227 x228 x229 x230 x231 x232 x233 x234 x235 x236 : Value} {Q : Exit → Act → World → Prop} {RA : Option Addr} {rn rc be bm ba k who : Nat} {z : Int} {raw : List Nat} {w wr : World} {D : Nat → Sd} (hk60 : k < 60) (hw2 : who < 2) (HI : Hid (LsI w wr be bm ba k D))
    (hN : ∀ (y14 y143 y144 y145 y146 y147 y148 y149 y150 y151 y152 y153 y154 y155 y156 y157 y158 y159 y160 y161 y162 y163 y164 y165 : Value) (w' : World), (∃ D', Hid (LsI w w' be bm ba (k + 1) D')) → Q .normal ⟨#[x0, .slice RA rn rc, x2, x3, x4, .slice (some ⟨be, 0, none⟩) 2 2, .slice (some ⟨bm, 0, none⟩) 2 2, .pointer (some ⟨ba, 0, none⟩), .int .i64 k, .int .i64 z, .int .i64 who, x11, x12, x13, y14, x15, x16, x17, x18, x19, x20, x21, x22, x23, x24, x25, x26, x27, x28, x29, x30, x31, x32, x33, x34, x35, x36, x37, x38, x39, x40, x41, x42, x43, x44, x45, x46, x47, x48, x49, x50, x51, x52, x53, x54, x55, x56, x57, x58, x59, x60, x61, x62, x63, x64, x65, x66, x67, x68, x69, x70, x71, x72, x73, x74, x75, x76, x77, x78, x79, x80, x81, x82, x83, x84, x85, x86, x87, x88, x89, x90, x91, x92, x93, x94, x95, x96, x97, x98, x99, x100, x101, x102, x103, x104, x105, x106, x107, x108, x109, x110, x111, x112, x113, x114, x115, x116, x117, x118, x119, x120, x121, x122, x123, x124, x125, x126, x127, x128, x129, x130, x131, x132, x133, x134, x135, x136, x137, x138, x139, x140, x141, x142, y143, y144, y145, y146, y147, y148, y149, y150, y151, y152, y153, y154, y155, y156, y157, y158, y159, y160, y161, y162, y163, y164, y165, x166, x167, x168, x169, x170, x171, x172, x173, x174, x175, x176, x177, x178, x179, x180, x181, x182, x183, x184, x185, x186, x187, x188, x189, x190, x191, x192, x193, x194, x195, x196, x197, x198, x199, x200, x201, x202, x203, x204, x205, x206, x207, x208, x209, x210, x211, x212, x213, x214, x215, x216, x217, x218, x219, x220, x221, x222, x223, x224, x225, x226, x227, x228, x229, x230, x231, x232, x233, x234, x235, x236], []⟩ w')
    : Code.wp Try.prog lsOut Q ⟨#[x0, .slice RA rn rc, x2, x3, x4, .slice (some ⟨be, 0, none⟩) 2 2, .slice (some ⟨bm, 0, none⟩) 2 2, .pointer (some ⟨ba, 0, none⟩), .int .i64 k, .int .i64 z, .int .i64 who, x11, x12, x13, x14, x15, x16, x17, x18, x19, x20, x21, x22, x23, x24, x25, x26, x27, x28, x29, x30, x31, x32, x33, x34, x35, x36, x37, x38, x39, x40, x41, x42, x43, x44, x45, x46, x47, x48, x49, x50, x51, x52, x53, x54, x55, x56, x57, x58, x59, x60, x61, x62, x63, x64, x65, x66, x67, x68, x69, x70, x71, x72, x73, x74, x75, x76, x77, x78, x79, x80, x81, x82, x83, x84, x85, x86, x87, x88, x89, x90, x91, x92, x93, x94, x95, x96, x97, x98, x99, x100, x101, x102, x103, x104, x105, x106, x107, x108, x109, x110, x111, x112, x113, x114, x115, x116, x117, x118, x119, x120, x121, x122, x123, x124, x125, x126, x127, x128, x129, x130, x131, x132, x133, x134, x135, x136, x137, x138, x139, x140, x141, x142, x143, x144, x145, x146, x147, x148, x149, x150, x151, x152, x153, x154, x155, x156, x157, x158, x159, x160, x161, x162, x163, x164, x165, x166, x167, x168, x169, x170, x171, x172, x173, x174, x175, x176, x177, x178, x179, x180, x181, x182, x183, x184, x185, x186, x187, x188, x189, x190, x191, x192, x193, x194, x195, x196, x197, x198, x199, x200, x201, x202, x203, x204, x205, x206, x207, x208, x209, x210, x211, x212, x213, x214, x215, x216, x217, x218, x219, x220, x221, x222, x223, x224, x225, x226, x227, x228, x229, x230, x231, x232, x233, x234, x235, x236], []⟩ wr := by
  conv => arg 2; whnf
  have hwz : (who : Int) < 2 := by omega
  have hwz0 : (0 : Int) ≤ who := by omega
  obtain ⟨i5, hi5, hu0, hu1, hu2⟩ := info_parts T.info5
  obtain ⟨i30, hi30, hv0, hv1, hv2⟩ := info_parts T.info30
  have hS := HI.out.sd who hw2
  have hce := HI.out.cE hw2
  have hcm := HI.out.cM hw2
  obtain ⟨gg, hgg⟩ : ∃ gg, gg = (D who).g := ⟨_, rfl⟩
  obtain ⟨hh, hhh⟩ : ∃ hh, hh = (D who).h := ⟨_, rfl⟩
  rw [← hgg] at hce
  rw [← hhh] at hcm
  have HGG := Lib.hid hgg
  have HHH := Lib.hid hhh
  have HS := Lib.hid hS
  clear hgg hhh hS
  have hout := out_any wr HS.out.en (fun m hm => (HS.out.msg m (List.mem_of_mem_drop hm)).1) (by have := HS.out.fle; have := HS.out.sle; omega) (by have := HS.out.nle; omega)
  obtain ⟨pk, hpk⟩ : ∃ pk, pk = pktB (D who).next (D who).first ((D who).S.drop (D who).first) := ⟨_, rfl⟩
  obtain ⟨pn, hpn⟩ : ∃ pn, pn = pk.length := ⟨_, rfl⟩
  rw [← HGG.out, ← hpk, ← hpn] at hout
  have hpl : 17 ≤ pn ∧ pn ≤ 8033 := by rw [hpn, hpk]; exact pktB_le _ _ _ fun m hm => (HS.out.msg m (List.mem_of_mem_drop hm)).1
  have hplt : ∀ b ∈ pk, b < 256 := by rw [hpk]; exact pktB_lt _ _ _ fun m hm => (HS.out.msg m (List.mem_of_mem_drop hm)).2
  have HOUT := Lib.hid hout
  have HPK := Lib.hid hpk
  have HPN := Lib.hid hpn
  have HPLT := Lib.hid hplt
  clear hout hpk hpn hplt
  obtain ⟨o, ho⟩ : ∃ o : Nat, o = 1 - who := ⟨_, rfl⟩
  have hoz : (1 : Int) - who = o := by omega
  have ho2 : o < 2 := by omega
  have hoz2 : (o : Int) < 2 := by omega
  clear ho
  go_wp2_with fail
  refine HOUT.out.mono ?_
  rintro e w6 ⟨A6, c6, rfl, hown6, hb6⟩
  have hI6 := HI.out.below hb6
  have hS6 := hI6.sd who hw2
  have hm6 := hI6.cM hw2
  have hpa := packet_any w6 hS6.ha (fun m hm => (hS6.msg m hm).1) (by have := hS6.sle; omega) hS6.fle (by have := hS6.nle; omega)
  rw [← HHH.out] at hm6 hpa
  rw [← HPK.out, ← HPN.out] at hpa
  have hcap6 := own_cap hown6
  have HPA := Lib.hid hpa
  have HI6 := Lib.hid hI6
  have HOWN6 := Lib.hid hown6
  have HCAP6 := Lib.hid hcap6
  have hok6 : MsOk w6 ⟨A6, pn, c6, pk⟩ := ⟨Tr.of_own hown6, HPN.out, hcap6.1, hcap6.2, HPLT.out⟩
  have HOK6 := Lib.hid hok6
  clear hI6 hS6 hpa hown6 hb6 hcap6 hok6
  go_wp2_with fail
  refine HPA.out.mono ?_
  rintro e w7 ⟨A7, c7, rfl, hown7, hb7⟩
  have hI7 := HI6.out.below hb7
  have hok7 := HOK6.out.below hb7
  have hbe := bytesEqual_any A6 A7 pn c6 pn c7 w7.heap.size pk pk w7 HPLT.out HPLT.out hok7.tr.rd (Rd.of_own hown7)
  rw [decide_eq_true rfl] at hbe
  have HBE := Lib.hid hbe
  have HI7 := Lib.hid hI7
  have HOK7 := Lib.hid hok7
  clear hI7 hok7 hbe hown7 hb7
  go_wp2_with fail
  refine HBE.out.mono ?_
  rintro e w8 ⟨rfl, rfl⟩
  have hca := HI7.out.cA ho2
  obtain ⟨an, han⟩ : ∃ an, an = (D o).Air.length := ⟨_, rfl⟩
  have hair := (HI7.out.sd o ho2).air
  have hale := (HI7.out.sd o ho2).ale
  rw [← han] at hca hair hale
  have HAN := Lib.hid han
  have HAIR := Lib.hid hair
  have hbs7 : w.heap.size ≤ w7.heap.size := HI7.out.bel.size
  clear han hair
  obtain ⟨OA, hOA⟩ : ∃ OA, OA = (D o).A := ⟨_, rfl⟩
  obtain ⟨oc, hoc⟩ : ∃ oc, oc = (D o).c := ⟨_, rfl⟩
  rw [← hOA, ← hoc] at hca HAIR
  have HOA := Lib.hid hOA
  have HOC := Lib.hid hoc
  clear hOA hoc
  go_wp2_with
    (at_builtin
     go_must (refine wpList_append_one _ rfl (.tmp 161) (.tmp 163) _ rfl w.heap.size 30 i30 (.slice none 0 0) 1 24 Try.underlying74 hi30 hv0 hv1 hv2 rfl (by decide) (.slice OA an oc) an _ rfl (HAIR.out.alloc _) w7.heap.size 1 30 #[.slice A6 pn c6] rfl (Bk.new _ _ _) rfl ?c1 (an + 1) rfl ?c2 ?c3 ?c4 ?_)
     case c1 => simp [Value.oneCell']
     case c2 => unfold maxLen; omega
     case c3 => omega
     case c4 => simp; omega
     intro g9 c9 w9 hown9 hg9 hat9
     have hk9 : Bk w9 ba 78 #[.slice (D 0).A (D 0).Air.length (D 0).c, .slice (D 1).A (D 1).Air.length (D 1).c] := (HI7.out.bka.alloc _).grown hg9 (fun e => by
       obtain ⟨_, cs, hb⟩ := own_blk HAIR.out ba (own_blk_of e.symm)
       exact Bk.ne_ hb HI7.out.bka (by decide) rfl)
     have f9 := hk9.frozen o
     have k9 : w9.cell? ⟨ba, o, none⟩ = some (.slice OA an oc) := ((hk9.cell o).trans (HI7.out.bka.cell o).symm).trans hca
     have HOWN9 := Lib.hid hown9
     have HG9 := Lib.hid hg9
     have HAT9 := Lib.hid hat9
     clear hown9 hg9 hat9 hk9)
  go_wp2_with fail
  exact ⟨_, Lib.hid (HI7.out.fly (t' := k + 1) ho2 HOK7.out hpl.1 hpl.2 HAN.out (Nat.le_refl _) HOWN9.out (by rw [← HOA.out, ← HOC.out]; exact HG9.out) (by rw [← HOA.out, ← HOC.out]; exact HAT9.out))⟩
end Go.Proofs.Ytlgcdcjfobfoiaa
