/-
  tourmake.system: one operation. Conditions: what is read can be read.
-/
import Derived.Test.YtnidcmhfbkdioaaSz24
namespace Go.Proofs.Ytnidcmhfbkdioaa
open Go.RowKit
set_option maxRecDepth 100000
noncomputable def syR31 : Code := (Try.f198.body.bind (rgnN 31)).getD .skip
noncomputable def syOp : Code := (Try.f198.body.bind (blkN 4)).getD .skip
theorem T.info344 : (Try.prog.info? 344).map (fun i => (i.zero, i.size, i.bytes)) = some (some (.agg #[.int .i64 0, .int .i64 0, .int .i64 0, .bool false, .int .i64 0, .int .i64 0, .int .i64 0, .bool false, .int .i64 0, .int .i64 0, .int .i64 0]), 11, 88) := by kernel_rfl
section
variable {w w8 wI : World} {B s hp hs hk hx ho sn sc kn kc n1 c1 n2 c2 n3 c3 n4 c4 on oc pn pc : Nat} {SA kA A1 A2 A3 A4 OA PA : Option Addr} {xs l4 : List Int} {ks : List Kd} {nm : ByteArray} {os : List Value}
theorem OpI.push {g8 c8 : Nat} {cs : List Value} {o : Obj} (h : OpI w wI B s hp hs hk SA sn sc xs kA kn kc ks hx nm A1 n1 c1 A2 n2 c2 A3 n3 c3 A4 n4 c4 l4 OA on oc os PA pn pc) (hB : B ≤ s) (hBI : B ≤ wI.heap.size) (hown : w8.ownsRow wI.heap.size 344 11 (.slice (some ⟨g8, 0, none⟩) (on + 1) c8) (on + 1) (os ++ cs)) (hg : (w.alloc o).grownBy w8 (Value.slice OA on oc).ownBlock) : OpI (w8.setCell ⟨hx, 5, none⟩ (.slice (some ⟨g8, 0, none⟩) (on + 1) c8)) wI B s hp hs hk SA sn sc xs kA kn kc ks hx nm A1 n1 c1 A2 n2 c2 A3 n3 c3 A4 n4 c4 l4 (some ⟨g8, 0, none⟩) (on + 1) c8 (os ++ cs) PA pn pc := by
  have hbx : Bk w8 hx 307 #[.string nm, .slice A1 n1 c1, .slice A2 n2 c2, .slice A3 n3 c3, .slice A4 n4 c4, .slice OA on oc, .slice PA pn pc] := (h.bx.alloc _).grown hg (fun e => own_ne h.ops h.bx (by decide) e.symm)
  have hq : Kx B [344, 307] w (w8.setCell ⟨hx, 5, none⟩ (.slice (some ⟨g8, 0, none⟩) (on + 1) c8)) := ((((Kx.refl (B := B)).alloc _).grown (h.ops.alloc _) hg hBI (by simp)).set hbx (Nat.le_trans hBI h.lx) (by simp) 5 _)
  have hk := hq.mono (Nat.zero_le _) (fun _ h => h)
  exact ⟨⟨h.arg.st.kx hq (Nat.le_refl _) (h.arg.st.lo hB) (by decide), hk.bk h.arg.bp (by decide), hk.bk h.arg.bs (by decide), hk.bk h.arg.bk (by decide), h.arg.rd.keep hk (by decide), h.arg.cap, h.arg.cap2, h.arg.pos, h.arg.few, h.arg.inn, h.arg.kd.keep hk (by decide) (by decide), h.arg.fd⟩, by simpa using hbx.set_ 5 (.slice (some ⟨g8, 0, none⟩) (on + 1) c8), h.w4.keep hk (by decide), h.cap4, h.cap42, h.i4, h.few4, own_far hown hbx (by decide) 5 _, ((h.fq.alloc _).grown hg (fun g hg => .inr (h.ops.lt g hg).1)).set (.inr h.lx) 5 _, h.lx, Nat.le_trans h.sz hq.size⟩
end
set_option maxHeartbeats 8000000 in
theorem sy31_any {x0 x1 x2 x5 x6 x8 x9 x12 x13 x14 x15 x16 x17 x18 x19 x20 x21 x22 x23 x24 x25 x26 x27 x28 x29 x30 x31 x32 x33 x34 x35 x36 x37 x38 x39 x40 x41 x42 x43 x44 x45 x46 x47 x48 x49 x50 x51 x52 x53 x54 x55 x56 x57 x58 x59 x60 x61 x62 x63 x64 x65 x66 x67 x68 x69 x70 x71 x72 x73 x74 x75 x76 x77 x78 x79 x80 x81 x82 x83 x84 x85 x86 x87 x88 x89 x90 x91 x92 x93 x94 x95 x96 x97 x98 x99 x100 x101 x102 x103 x104 x105 x106 x107 x108 x109 x110 x111 x112 x113 x114 x115 x116 x117 x118 x119 x120 x121 x122 x123 x124 x125 x126 x127 x128 x129 x130 x131 x132 x133 x134 x135 x136 x137 x138 x139 x140 x141 x142 x143 x144 x145 x146 x147 x148 x149 x150 x151 x152 x153 x154 x155 x156 x157 x158 x159 x160 x161 x162 x163 x164 x165 x166 x167 x168 x169 x170 x171 x172 x173 x174 x175 x176 x177 x178 x179 x180 x181 x182 x183 x184 x185 x186 : Value} {Q : Exit → Act → World → Prop} {wI w0 : World} {B s hp hs hk hx ho sn sc kn kc n1 c1 n2 c2 n3 c3 n4 c4 on oc pn pc : Nat} {SA kA A1 A2 A3 A4 OA PA : Option Addr} {xs l4 : List Int} {ks : List Kd} {nm : ByteArray} {os : List Value} {d t0 t1 : Int} {a0 : Bool} {a1 a2 a3 : Int} {b0 : Bool} {b1 b2 b3 : Int}
    (hI : OpI w0 wI B s hp hs hk SA sn sc xs kA kn kc ks hx nm A1 n1 c1 A2 n2 c2 A3 n3 c3 A4 n4 c4 l4 OA on oc os PA pn pc) (hB : B ≤ s) (hBI : B ≤ wI.heap.size) (ho_ : Bk w0 ho 344 #[.int .i64 d, .int .i64 t0, .int .i64 t1, .bool a0, .int .i64 a1, .int .i64 a2, .int .i64 a3, .bool b0, .int .i64 b1, .int .i64 b2, .int .i64 b3]) (hon : on ≤ 100)
    (hN : ∀ (y179 y180 y181 y182 y183 y184 : Value) (OA2 : Option Addr) (oc2 : Nat) (os2 : List Value) (w' : World), Hid (OpI w' wI B s hp hs hk SA sn sc xs kA kn kc ks hx nm A1 n1 c1 A2 n2 c2 A3 n3 c3 A4 n4 c4 l4 OA2 (on + 1) oc2 os2 PA pn pc) → Q .normal ⟨#[x0, x1, x2, .pointer (some ⟨hk, 0, none⟩), .pointer (some ⟨hp, 0, none⟩), x5, x6, .pointer (some ⟨hx, 0, none⟩), x8, x9, .func (.func 237) #[] #[.pointer (some ⟨hp, 0, none⟩), .pointer (some ⟨hs, 0, none⟩), .pointer (some ⟨hk, 0, none⟩)], .pointer (some ⟨ho, 0, none⟩), x12, x13, x14, x15, x16, x17, x18, x19, x20, x21, x22, x23, x24, x25, x26, x27, x28, x29, x30, x31, x32, x33, x34, x35, x36, x37, x38, x39, x40, x41, x42, x43, x44, x45, x46, x47, x48, x49, x50, x51, x52, x53, x54, x55, x56, x57, x58, x59, x60, x61, x62, x63, x64, x65, x66, x67, x68, x69, x70, x71, x72, x73, x74, x75, x76, x77, x78, x79, x80, x81, x82, x83, x84, x85, x86, x87, x88, x89, x90, x91, x92, x93, x94, x95, x96, x97, x98, x99, x100, x101, x102, x103, x104, x105, x106, x107, x108, x109, x110, x111, x112, x113, x114, x115, x116, x117, x118, x119, x120, x121, x122, x123, x124, x125, x126, x127, x128, x129, x130, x131, x132, x133, x134, x135, x136, x137, x138, x139, x140, x141, x142, x143, x144, x145, x146, x147, x148, x149, x150, x151, x152, x153, x154, x155, x156, x157, x158, x159, x160, x161, x162, x163, x164, x165, x166, x167, x168, x169, x170, x171, x172, x173, x174, x175, x176, x177, x178, y179, y180, y181, y182, y183, y184, x185, x186], []⟩ w') :
    Code.wp Try.prog syR31 Q ⟨#[x0, x1, x2, .pointer (some ⟨hk, 0, none⟩), .pointer (some ⟨hp, 0, none⟩), x5, x6, .pointer (some ⟨hx, 0, none⟩), x8, x9, .func (.func 237) #[] #[.pointer (some ⟨hp, 0, none⟩), .pointer (some ⟨hs, 0, none⟩), .pointer (some ⟨hk, 0, none⟩)], .pointer (some ⟨ho, 0, none⟩), x12, x13, x14, x15, x16, x17, x18, x19, x20, x21, x22, x23, x24, x25, x26, x27, x28, x29, x30, x31, x32, x33, x34, x35, x36, x37, x38, x39, x40, x41, x42, x43, x44, x45, x46, x47, x48, x49, x50, x51, x52, x53, x54, x55, x56, x57, x58, x59, x60, x61, x62, x63, x64, x65, x66, x67, x68, x69, x70, x71, x72, x73, x74, x75, x76, x77, x78, x79, x80, x81, x82, x83, x84, x85, x86, x87, x88, x89, x90, x91, x92, x93, x94, x95, x96, x97, x98, x99, x100, x101, x102, x103, x104, x105, x106, x107, x108, x109, x110, x111, x112, x113, x114, x115, x116, x117, x118, x119, x120, x121, x122, x123, x124, x125, x126, x127, x128, x129, x130, x131, x132, x133, x134, x135, x136, x137, x138, x139, x140, x141, x142, x143, x144, x145, x146, x147, x148, x149, x150, x151, x152, x153, x154, x155, x156, x157, x158, x159, x160, x161, x162, x163, x164, x165, x166, x167, x168, x169, x170, x171, x172, x173, x174, x175, x176, x177, x178, x179, x180, x181, x182, x183, x184, x185, x186], []⟩ w0 := by
  conv => arg 2; whnf
  obtain ⟨iO, hiO, hz0, hz1, hz2⟩ := info_parts T.info344
  have HI := Lib.hid hI
  have p0 : w0.cell? ⟨hx, 5, none⟩ = some (.slice OA on oc) := hI.bx.cell 5
  have k0 : w0.cell? ⟨ho, 0, none⟩ = some (.int .i64 d) := ho_.cell 0
  have k1 : w0.cell? ⟨ho, 1, none⟩ = some (.int .i64 t0) := ho_.cell 1
  have k2 : w0.cell? ⟨ho, 2, none⟩ = some (.int .i64 t1) := ho_.cell 2
  have k3 : w0.cell? ⟨ho, 3, none⟩ = some (.bool a0) := ho_.cell 3
  have k4 : w0.cell? ⟨ho, 4, none⟩ = some (.int .i64 a1) := ho_.cell 4
  have k5 : w0.cell? ⟨ho, 5, none⟩ = some (.int .i64 a2) := ho_.cell 5
  have k6 : w0.cell? ⟨ho, 6, none⟩ = some (.int .i64 a3) := ho_.cell 6
  have k7 : w0.cell? ⟨ho, 7, none⟩ = some (.bool b0) := ho_.cell 7
  have k8 : w0.cell? ⟨ho, 8, none⟩ = some (.int .i64 b1) := ho_.cell 8
  have k9 : w0.cell? ⟨ho, 9, none⟩ = some (.int .i64 b2) := ho_.cell 9
  have k10 : w0.cell? ⟨ho, 10, none⟩ = some (.int .i64 b3) := ho_.cell 10
  have hsz := hI.sz
  clear hI ho_
  go_wp2_with
    (at_builtin
     go_must (refine wpList_append_one _ rfl (.tmp 180) (.tmp 182) _ rfl wI.heap.size 344 iO (.agg #[.int .i64 0, .int .i64 0, .int .i64 0, .bool false, .int .i64 0, .int .i64 0, .int .i64 0, .bool false, .int .i64 0, .int .i64 0, .int .i64 0]) 11 88 Try.underlying305 hiO hz0 hz1 hz2 rfl (by decide) (.slice OA on oc) on os rfl (HI.out.ops.alloc _) w0.heap.size 1 344 #[.int .i64 d, .int .i64 t0, .int .i64 t1, .bool a0, .int .i64 a1, .int .i64 a2, .int .i64 a3, .bool b0, .int .i64 b1, .int .i64 b2, .int .i64 b3] rfl (Bk.new _ _ _) rfl ?c1 (on + 1) rfl ?c2 ?c3 ?c4 ?_)
     case c1 => simp [Value.oneCell']
     case c2 => unfold maxLen; omega
     case c3 => omega
     case c4 => (simp; omega)
     intro g8 c8 w8 hown8 hg8 hat8
     have hbx : Bk w8 hx 307 #[.string nm, .slice A1 n1 c1, .slice A2 n2 c2, .slice A3 n3 c3, .slice A4 n4 c4, .slice OA on oc, .slice PA pn pc] := (HI.out.bx.alloc _).grown hg8 (fun e => own_ne HI.out.ops HI.out.bx (by decide) e.symm)
     have z0 : w8.cell? ⟨hx, 5, none⟩ = some (.slice OA on oc) := hbx.cell 5
     have z1 := hbx.frozen 5
     have HF := Lib.hid (HI.out.push hB hBI hown8 hg8)
     clear hbx hown8 hg8 hat8)
  (try refine NoPanic.normal ?_)
  (try simp only [Exit.inBlock, Exit.then])
  first
    | exact HF
    | exact hN _ _ _ _ _ _ _ _ _ _ HF
set_option maxHeartbeats 16000000 in
theorem syOp_any {x0 x1 x2 x5 x6 x8 x9 x11 x12 x13 x14 x15 x16 x17 x18 x19 x20 x21 x22 x23 x24 x25 x26 x27 x28 x29 x30 x31 x32 x33 x34 x35 x36 x37 x38 x39 x40 x41 x42 x43 x44 x45 x46 x47 x48 x49 x50 x51 x52 x53 x54 x55 x56 x57 x58 x59 x60 x61 x62 x63 x64 x65 x66 x67 x68 x69 x70 x71 x72 x73 x74 x75 x76 x77 x78 x79 x80 x81 x82 x83 x84 x85 x86 x87 x88 x89 x90 x91 x92 x93 x94 x95 x96 x97 x98 x99 x100 x101 x102 x103 x104 x105 x106 x107 x108 x109 x110 x111 x112 x113 x114 x115 x116 x117 x118 x119 x120 x121 x122 x123 x124 x125 x126 x127 x128 x129 x130 x131 x132 x133 x134 x135 x136 x137 x138 x139 x140 x141 x142 x143 x144 x145 x146 x147 x148 x149 x150 x151 x152 x153 x154 x155 x156 x157 x158 x159 x160 x161 x162 x163 x164 x165 x166 x167 x168 x169 x170 x171 x172 x173 x174 x175 x176 x177 x178 x179 x180 x181 x182 x183 x184 x185 x186 : Value} {Q : Exit → Act → World → Prop} {wI w0 : World} {B s hp hs hk hx sn sc kn kc n1 c1 n2 c2 n3 c3 n4 c4 on oc pn pc : Nat} {SA kA A1 A2 A3 A4 OA PA : Option Addr} {xs l4 : List Int} {ks : List Kd} {nm : ByteArray} {os : List Value}
    (hI : OpI w0 wI B s hp hs hk SA sn sc xs kA kn kc ks hx nm A1 n1 c1 A2 n2 c2 A3 n3 c3 A4 n4 c4 l4 OA on oc os PA pn pc) (hB : B ≤ s) (hBI : B ≤ wI.heap.size) (hone : ∀ k ∈ ks, oneF k.nm k.fds = 0) (hkn : kn ≤ 16) (hk1 : 1 ≤ kn) (hon : on ≤ 100)
    (hN : ∀ (y11 y12 y85 y86 y87 y88 y89 y90 y91 y92 y93 y94 y95 y96 y97 y98 y99 y100 y101 y102 y103 y104 y105 y106 y107 y108 y109 y110 y111 y112 y113 y114 y115 y116 y117 y118 y119 y120 y121 y122 y123 y124 y125 y126 y127 y128 y129 y130 y131 y132 y133 y134 y135 y136 y137 y138 y139 y140 y141 y142 y143 y144 y145 y146 y147 y148 y149 y150 y151 y152 y153 y154 y155 y156 y157 y158 y159 y160 y161 y162 y163 y164 y165 y166 y167 y168 y169 y170 y171 y172 y173 y174 y175 y176 y177 y178 y179 y180 y181 y182 y183 y184 : Value) (OA2 : Option Addr) (oc2 : Nat) (os2 : List Value) (PA2 : Option Addr) (pn2 pc2 : Nat) (w' : World), Hid (OpI w' wI B s hp hs hk SA sn sc xs kA kn kc ks hx nm A1 n1 c1 A2 n2 c2 A3 n3 c3 A4 n4 c4 l4 OA2 (on + 1) oc2 os2 PA2 pn2 pc2) → Q .normal ⟨#[x0, x1, x2, .pointer (some ⟨hk, 0, none⟩), .pointer (some ⟨hp, 0, none⟩), x5, x6, .pointer (some ⟨hx, 0, none⟩), x8, x9, .func (.func 237) #[] #[.pointer (some ⟨hp, 0, none⟩), .pointer (some ⟨hs, 0, none⟩), .pointer (some ⟨hk, 0, none⟩)], y11, y12, x13, x14, x15, x16, x17, x18, x19, x20, x21, x22, x23, x24, x25, x26, x27, x28, x29, x30, x31, x32, x33, x34, x35, x36, x37, x38, x39, x40, x41, x42, x43, x44, x45, x46, x47, x48, x49, x50, x51, x52, x53, x54, x55, x56, x57, x58, x59, x60, x61, x62, x63, x64, x65, x66, x67, x68, x69, x70, x71, x72, x73, x74, x75, x76, x77, x78, x79, x80, x81, x82, x83, x84, y85, y86, y87, y88, y89, y90, y91, y92, y93, y94, y95, y96, y97, y98, y99, y100, y101, y102, y103, y104, y105, y106, y107, y108, y109, y110, y111, y112, y113, y114, y115, y116, y117, y118, y119, y120, y121, y122, y123, y124, y125, y126, y127, y128, y129, y130, y131, y132, y133, y134, y135, y136, y137, y138, y139, y140, y141, y142, y143, y144, y145, y146, y147, y148, y149, y150, y151, y152, y153, y154, y155, y156, y157, y158, y159, y160, y161, y162, y163, y164, y165, y166, y167, y168, y169, y170, y171, y172, y173, y174, y175, y176, y177, y178, y179, y180, y181, y182, y183, y184, x185, x186], []⟩ w') :
    Code.wp Try.prog syOp Q ⟨#[x0, x1, x2, .pointer (some ⟨hk, 0, none⟩), .pointer (some ⟨hp, 0, none⟩), x5, x6, .pointer (some ⟨hx, 0, none⟩), x8, x9, .func (.func 237) #[] #[.pointer (some ⟨hp, 0, none⟩), .pointer (some ⟨hs, 0, none⟩), .pointer (some ⟨hk, 0, none⟩)], x11, x12, x13, x14, x15, x16, x17, x18, x19, x20, x21, x22, x23, x24, x25, x26, x27, x28, x29, x30, x31, x32, x33, x34, x35, x36, x37, x38, x39, x40, x41, x42, x43, x44, x45, x46, x47, x48, x49, x50, x51, x52, x53, x54, x55, x56, x57, x58, x59, x60, x61, x62, x63, x64, x65, x66, x67, x68, x69, x70, x71, x72, x73, x74, x75, x76, x77, x78, x79, x80, x81, x82, x83, x84, x85, x86, x87, x88, x89, x90, x91, x92, x93, x94, x95, x96, x97, x98, x99, x100, x101, x102, x103, x104, x105, x106, x107, x108, x109, x110, x111, x112, x113, x114, x115, x116, x117, x118, x119, x120, x121, x122, x123, x124, x125, x126, x127, x128, x129, x130, x131, x132, x133, x134, x135, x136, x137, x138, x139, x140, x141, x142, x143, x144, x145, x146, x147, x148, x149, x150, x151, x152, x153, x154, x155, x156, x157, x158, x159, x160, x161, x162, x163, x164, x165, x166, x167, x168, x169, x170, x171, x172, x173, x174, x175, x176, x177, x178, x179, x180, x181, x182, x183, x184, x185, x186], []⟩ w0 := by
  conv => arg 2; whnf
  have HNX := Lib.hid next_any
  have HI := Lib.hid hI
  have HON := Lib.hid hone
  have p0 : w0.cell? ⟨hp, 0, none⟩ = some (.pointer (some ⟨s, 0, none⟩)) := hI.arg.bp.cell 0
  clear hI hone
  go_wp2_with fail
  (with_reducible refine (HNX.out s B 13 _ HI.out.arg.st hB (by omega) (by omega)).mono ?_)
  rintro e w1 ⟨d, rfl, hd0, hd1, hst1, hg1⟩
  have HI1 : Hid (OpI w1 wI B s hp hs hk SA sn sc xs kA kn kc ks hx nm A1 n1 c1 A2 n2 c2 A3 n3 c3 A4 n4 c4 l4 OA on oc os PA pn pc) := Lib.hid (HI.out.next hst1 (Fq.refl.grown hg1 fun g hg => .inl (by injection hg with hg; simp [hg])))
  clear hst1 hg1 HI p0
  go_wp2_with fail
  (with_reducible refine (arg237_any HI1.out.arg hB).mono ?_)
  rintro e w2 ⟨a0, a1, a2, a3, rfl, hst2, hq2⟩
  have HI2 : Hid (OpI w2 wI B s hp hs hk SA sn sc xs kA kn kc ks hx nm A1 n1 c1 A2 n2 c2 A3 n3 c3 A4 n4 c4 l4 OA on oc os PA pn pc) := Lib.hid (HI1.out.next hst2 hq2)
  clear hst2 hq2 HI1
  obtain ⟨w3, hw3⟩ : ∃ z, z = w2.alloc (.cells #[.int .i64 d, .int .i64 0, .int .i64 0, .bool a0, .int .i64 a1, .int .i64 a2, .int .i64 a3, .bool false, .int .i64 0, .int .i64 0, .int .i64 0] 344) := ⟨_, rfl⟩
  obtain ⟨ho, hho⟩ : ∃ z, z = w2.heap.size := ⟨_, rfl⟩
  have HO3 : Hid (Bk w3 ho 344 #[.int .i64 d, .int .i64 0, .int .i64 0, .bool a0, .int .i64 a1, .int .i64 a2, .int .i64 a3, .bool false, .int .i64 0, .int .i64 0, .int .i64 0]) := Lib.hid (by rw [hw3, hho]; exact Bk.new _ _ _)
  have HI3 : Hid (OpI w3 wI B s hp hs hk SA sn sc xs kA kn kc ks hx nm A1 n1 c1 A2 n2 c2 A3 n3 c3 A4 n4 c4 l4 OA on oc os PA pn pc) := Lib.hid (by rw [hw3]; exact HI2.out.next (HI2.out.arg.st.below ((Below.refl _ _).alloc (Nat.le_refl _) _) (HI2.out.arg.st.lo hB)) (Fq.of_below ((Below.refl _ _).alloc (Nat.le_refl _) _)))
  have hno : (Value.slice OA on oc).ownBlock ≠ some ho := fun e => by have := (HI2.out.ops.lt ho e).2; omega
  have hoI : wI.heap.size ≤ ho := by have := HI2.out.sz; omega
  go_upto_region 20 with fail
  rw [← hw3, ← hho]
  clear hw3 hho HI2
  have p4 : w3.cell? ⟨ho, 0, none⟩ = some (.int .i64 d) := HO3.out.cell 0
  rcases (show d = 0 ∨ d = 1 ∨ d = 2 ∨ d = 3 ∨ d = 4 ∨ d = 5 ∨ d = 6 ∨ d = 7 ∨ d = 8 ∨ d = 9 ∨ d = 10 ∨ d = 11 ∨ d = 12 by omega) with rfl | rfl | rfl | rfl | rfl | rfl | rfl | rfl | rfl | rfl | rfl | rfl | rfl
  · clear hd0 hd1
    go_upto_block 5 with fail
    clear p4
    refine sySw_any HI3.out hB hBI HO3.out hoI hno HON.out hkn hk1 (by decide) (by decide) ?_
    intros
    rename_i d' t0' t1' a0' a1' a2' a3' b0' b1' b2' b3' PA' pn' pc' w7 H7
    have HI7 := Lib.hid H7.out.1
    have HO7 := Lib.hid H7.out.2
    clear H7
    go_upto_region 31 with fail
    refine sy31_any HI7.out hB hBI HO7.out hon ?_
    intros
    rename_i OA2 oc2 os2 w8 HF
    clear HI7 HO7
    go_wp2_with fail
    (try simp only [Exit.inBlock, Exit.then])
    first
      | exact HF
      | exact hN _ _ _ _ _ _ _ _ _ _ _ _ _ _ _ _ _ _ _ _ _ _ _ _ _ _ _ _ _ _ _ _ _ _ _ _ _ _ _ _ _ _ _ _ _ _ _ _ _ _ _ _ _ _ _ _ _ _ _ _ _ _ _ _ _ _ _ _ _ _ _ _ _ _ _ _ _ _ _ _ _ _ _ _ _ _ _ _ _ _ _ _ _ _ _ _ _ _ _ _ _ _ _ _ _ _ _ _ _ HF
  · clear hd0 hd1
    go_wp2_with fail
    (with_reducible refine (arg237_any HI3.out.arg hB).mono ?_)
    rintro e w4 ⟨b0, b1, b2, b3, rfl, hst4, hq4⟩
    have HI4 : Hid (OpI w4 wI B s hp hs hk SA sn sc xs kA kn kc ks hx nm A1 n1 c1 A2 n2 c2 A3 n3 c3 A4 n4 c4 l4 OA on oc os PA pn pc) := Lib.hid (HI3.out.next hst4 hq4)
    have HO4 : Hid (Bk w4 ho 344 #[.int .i64 1, .int .i64 0, .int .i64 0, .bool a0, .int .i64 a1, .int .i64 a2, .int .i64 a3, .bool false, .int .i64 0, .int .i64 0, .int .i64 0]) := Lib.hid ((Kx.fq (B' := 0) hq4 HI3.out.arg.st (Nat.zero_le _)).bk HO3.out (by decide))
    clear hst4 hq4 HI3 HO3 p4
    have z7 : w4.cell? ⟨ho, 7, none⟩ = some (.bool false) := HO4.out.cell 7
    have z8 : w4.cell? ⟨ho, 8, none⟩ = some (.int .i64 0) := HO4.out.cell 8
    have z9 : w4.cell? ⟨ho, 9, none⟩ = some (.int .i64 0) := HO4.out.cell 9
    have z10 : w4.cell? ⟨ho, 10, none⟩ = some (.int .i64 0) := HO4.out.cell 10
    have y7 := HO4.out.frozen 7
    have y8 := HO4.out.frozen 8
    have y9 := HO4.out.frozen 9
    have y10 := HO4.out.frozen 10
    obtain ⟨w5, hw5⟩ : ∃ z, z = (((w4.setCell ⟨ho, 7, none⟩ (.bool b0)).setCell ⟨ho, 8, none⟩ (.int .i64 b1)).setCell ⟨ho, 9, none⟩ (.int .i64 b2)).setCell ⟨ho, 10, none⟩ (.int .i64 b3) := ⟨_, rfl⟩
    have HO5 : Hid (Bk w5 ho 344 #[.int .i64 1, .int .i64 0, .int .i64 0, .bool a0, .int .i64 a1, .int .i64 a2, .int .i64 a3, .bool b0, .int .i64 b1, .int .i64 b2, .int .i64 b3]) := Lib.hid (by rw [hw5]; simpa using (((HO4.out.set_ 7 (.bool b0)).set_ 8 (.int .i64 b1)).set_ 9 (.int .i64 b2)).set_ 10 (.int .i64 b3))
    have HI5 : Hid (OpI w5 wI B s hp hs hk SA sn sc xs kA kn kc ks hx nm A1 n1 c1 A2 n2 c2 A3 n3 c3 A4 n4 c4 l4 OA on oc os PA pn pc) := Lib.hid (by
      have hBO : B ≤ ho := Nat.le_trans hBI hoI
      rw [hw5]
      exact HI4.out.op hB HO4.out hoI ((((Kx.refl.set HO4.out hBO (by simp) 7 (.bool b0)).set (HO4.out.set_ 7 _) hBO (by simp) 8 (.int .i64 b1)).set ((HO4.out.set_ 7 _).set_ 8 _) hBO (by simp) 9 (.int .i64 b2)).set (((HO4.out.set_ 7 _).set_ 8 _).set_ 9 _) hBO (by simp) 10 (.int .i64 b3)) ((((HI4.out.fq.set (.inr hoI) 7 _).set (.inr hoI) 8 _).set (.inr hoI) 9 _).set (.inr hoI) 10 _) (own_farB (own_farB (own_farB (own_farB HI4.out.ops hno) hno) hno) hno))
    go_upto_block 5 with fail
    rw [← hw5]
    clear hw5 z7 z8 z9 z10 y7 y8 y9 y10 HI4 HO4
    refine sySw_any HI5.out hB hBI HO5.out hoI hno HON.out hkn hk1 (by decide) (by decide) ?_
    intros
    rename_i d' t0' t1' a0' a1' a2' a3' b0' b1' b2' b3' PA' pn' pc' w7 H7
    have HI7 := Lib.hid H7.out.1
    have HO7 := Lib.hid H7.out.2
    clear H7
    go_upto_region 31 with fail
    refine sy31_any HI7.out hB hBI HO7.out hon ?_
    intros
    rename_i OA2 oc2 os2 w8 HF
    clear HI7 HO7
    go_wp2_with fail
    (try simp only [Exit.inBlock, Exit.then])
    first
      | exact HF
      | exact hN _ _ _ _ _ _ _ _ _ _ _ _ _ _ _ _ _ _ _ _ _ _ _ _ _ _ _ _ _ _ _ _ _ _ _ _ _ _ _ _ _ _ _ _ _ _ _ _ _ _ _ _ _ _ _ _ _ _ _ _ _ _ _ _ _ _ _ _ _ _ _ _ _ _ _ _ _ _ _ _ _ _ _ _ _ _ _ _ _ _ _ _ _ _ _ _ _ _ _ _ _ _ _ _ _ _ _ _ _ HF
  · clear hd0 hd1
    go_wp2_with fail
    (with_reducible refine (arg237_any HI3.out.arg hB).mono ?_)
    rintro e w4 ⟨b0, b1, b2, b3, rfl, hst4, hq4⟩
    have HI4 : Hid (OpI w4 wI B s hp hs hk SA sn sc xs kA kn kc ks hx nm A1 n1 c1 A2 n2 c2 A3 n3 c3 A4 n4 c4 l4 OA on oc os PA pn pc) := Lib.hid (HI3.out.next hst4 hq4)
    have HO4 : Hid (Bk w4 ho 344 #[.int .i64 2, .int .i64 0, .int .i64 0, .bool a0, .int .i64 a1, .int .i64 a2, .int .i64 a3, .bool false, .int .i64 0, .int .i64 0, .int .i64 0]) := Lib.hid ((Kx.fq (B' := 0) hq4 HI3.out.arg.st (Nat.zero_le _)).bk HO3.out (by decide))
    clear hst4 hq4 HI3 HO3 p4
    have z7 : w4.cell? ⟨ho, 7, none⟩ = some (.bool false) := HO4.out.cell 7
    have z8 : w4.cell? ⟨ho, 8, none⟩ = some (.int .i64 0) := HO4.out.cell 8
    have z9 : w4.cell? ⟨ho, 9, none⟩ = some (.int .i64 0) := HO4.out.cell 9
    have z10 : w4.cell? ⟨ho, 10, none⟩ = some (.int .i64 0) := HO4.out.cell 10
    have y7 := HO4.out.frozen 7
    have y8 := HO4.out.frozen 8
    have y9 := HO4.out.frozen 9
    have y10 := HO4.out.frozen 10
    obtain ⟨w5, hw5⟩ : ∃ z, z = (((w4.setCell ⟨ho, 7, none⟩ (.bool b0)).setCell ⟨ho, 8, none⟩ (.int .i64 b1)).setCell ⟨ho, 9, none⟩ (.int .i64 b2)).setCell ⟨ho, 10, none⟩ (.int .i64 b3) := ⟨_, rfl⟩
    have HO5 : Hid (Bk w5 ho 344 #[.int .i64 2, .int .i64 0, .int .i64 0, .bool a0, .int .i64 a1, .int .i64 a2, .int .i64 a3, .bool b0, .int .i64 b1, .int .i64 b2, .int .i64 b3]) := Lib.hid (by rw [hw5]; simpa using (((HO4.out.set_ 7 (.bool b0)).set_ 8 (.int .i64 b1)).set_ 9 (.int .i64 b2)).set_ 10 (.int .i64 b3))
    have HI5 : Hid (OpI w5 wI B s hp hs hk SA sn sc xs kA kn kc ks hx nm A1 n1 c1 A2 n2 c2 A3 n3 c3 A4 n4 c4 l4 OA on oc os PA pn pc) := Lib.hid (by
      have hBO : B ≤ ho := Nat.le_trans hBI hoI
      rw [hw5]
      exact HI4.out.op hB HO4.out hoI ((((Kx.refl.set HO4.out hBO (by simp) 7 (.bool b0)).set (HO4.out.set_ 7 _) hBO (by simp) 8 (.int .i64 b1)).set ((HO4.out.set_ 7 _).set_ 8 _) hBO (by simp) 9 (.int .i64 b2)).set (((HO4.out.set_ 7 _).set_ 8 _).set_ 9 _) hBO (by simp) 10 (.int .i64 b3)) ((((HI4.out.fq.set (.inr hoI) 7 _).set (.inr hoI) 8 _).set (.inr hoI) 9 _).set (.inr hoI) 10 _) (own_farB (own_farB (own_farB (own_farB HI4.out.ops hno) hno) hno) hno))
    go_upto_block 5 with fail
    rw [← hw5]
    clear hw5 z7 z8 z9 z10 y7 y8 y9 y10 HI4 HO4
    refine sySw_any HI5.out hB hBI HO5.out hoI hno HON.out hkn hk1 (by decide) (by decide) ?_
    intros
    rename_i d' t0' t1' a0' a1' a2' a3' b0' b1' b2' b3' PA' pn' pc' w7 H7
    have HI7 := Lib.hid H7.out.1
    have HO7 := Lib.hid H7.out.2
    clear H7
    go_upto_region 31 with fail
    refine sy31_any HI7.out hB hBI HO7.out hon ?_
    intros
    rename_i OA2 oc2 os2 w8 HF
    clear HI7 HO7
    go_wp2_with fail
    (try simp only [Exit.inBlock, Exit.then])
    first
      | exact HF
      | exact hN _ _ _ _ _ _ _ _ _ _ _ _ _ _ _ _ _ _ _ _ _ _ _ _ _ _ _ _ _ _ _ _ _ _ _ _ _ _ _ _ _ _ _ _ _ _ _ _ _ _ _ _ _ _ _ _ _ _ _ _ _ _ _ _ _ _ _ _ _ _ _ _ _ _ _ _ _ _ _ _ _ _ _ _ _ _ _ _ _ _ _ _ _ _ _ _ _ _ _ _ _ _ _ _ _ _ _ _ _ HF
  · clear hd0 hd1
    go_wp2_with fail
    (with_reducible refine (arg237_any HI3.out.arg hB).mono ?_)
    rintro e w4 ⟨b0, b1, b2, b3, rfl, hst4, hq4⟩
    have HI4 : Hid (OpI w4 wI B s hp hs hk SA sn sc xs kA kn kc ks hx nm A1 n1 c1 A2 n2 c2 A3 n3 c3 A4 n4 c4 l4 OA on oc os PA pn pc) := Lib.hid (HI3.out.next hst4 hq4)
    have HO4 : Hid (Bk w4 ho 344 #[.int .i64 3, .int .i64 0, .int .i64 0, .bool a0, .int .i64 a1, .int .i64 a2, .int .i64 a3, .bool false, .int .i64 0, .int .i64 0, .int .i64 0]) := Lib.hid ((Kx.fq (B' := 0) hq4 HI3.out.arg.st (Nat.zero_le _)).bk HO3.out (by decide))
    clear hst4 hq4 HI3 HO3 p4
    have z7 : w4.cell? ⟨ho, 7, none⟩ = some (.bool false) := HO4.out.cell 7
    have z8 : w4.cell? ⟨ho, 8, none⟩ = some (.int .i64 0) := HO4.out.cell 8
    have z9 : w4.cell? ⟨ho, 9, none⟩ = some (.int .i64 0) := HO4.out.cell 9
    have z10 : w4.cell? ⟨ho, 10, none⟩ = some (.int .i64 0) := HO4.out.cell 10
    have y7 := HO4.out.frozen 7
    have y8 := HO4.out.frozen 8
    have y9 := HO4.out.frozen 9
    have y10 := HO4.out.frozen 10
    obtain ⟨w5, hw5⟩ : ∃ z, z = (((w4.setCell ⟨ho, 7, none⟩ (.bool b0)).setCell ⟨ho, 8, none⟩ (.int .i64 b1)).setCell ⟨ho, 9, none⟩ (.int .i64 b2)).setCell ⟨ho, 10, none⟩ (.int .i64 b3) := ⟨_, rfl⟩
    have HO5 : Hid (Bk w5 ho 344 #[.int .i64 3, .int .i64 0, .int .i64 0, .bool a0, .int .i64 a1, .int .i64 a2, .int .i64 a3, .bool b0, .int .i64 b1, .int .i64 b2, .int .i64 b3]) := Lib.hid (by rw [hw5]; simpa using (((HO4.out.set_ 7 (.bool b0)).set_ 8 (.int .i64 b1)).set_ 9 (.int .i64 b2)).set_ 10 (.int .i64 b3))
    have HI5 : Hid (OpI w5 wI B s hp hs hk SA sn sc xs kA kn kc ks hx nm A1 n1 c1 A2 n2 c2 A3 n3 c3 A4 n4 c4 l4 OA on oc os PA pn pc) := Lib.hid (by
      have hBO : B ≤ ho := Nat.le_trans hBI hoI
      rw [hw5]
      exact HI4.out.op hB HO4.out hoI ((((Kx.refl.set HO4.out hBO (by simp) 7 (.bool b0)).set (HO4.out.set_ 7 _) hBO (by simp) 8 (.int .i64 b1)).set ((HO4.out.set_ 7 _).set_ 8 _) hBO (by simp) 9 (.int .i64 b2)).set (((HO4.out.set_ 7 _).set_ 8 _).set_ 9 _) hBO (by simp) 10 (.int .i64 b3)) ((((HI4.out.fq.set (.inr hoI) 7 _).set (.inr hoI) 8 _).set (.inr hoI) 9 _).set (.inr hoI) 10 _) (own_farB (own_farB (own_farB (own_farB HI4.out.ops hno) hno) hno) hno))
    go_upto_block 5 with fail
    rw [← hw5]
    clear hw5 z7 z8 z9 z10 y7 y8 y9 y10 HI4 HO4
    refine sySw_any HI5.out hB hBI HO5.out hoI hno HON.out hkn hk1 (by decide) (by decide) ?_
    intros
    rename_i d' t0' t1' a0' a1' a2' a3' b0' b1' b2' b3' PA' pn' pc' w7 H7
    have HI7 := Lib.hid H7.out.1
    have HO7 := Lib.hid H7.out.2
    clear H7
    go_upto_region 31 with fail
    refine sy31_any HI7.out hB hBI HO7.out hon ?_
    intros
    rename_i OA2 oc2 os2 w8 HF
    clear HI7 HO7
    go_wp2_with fail
    (try simp only [Exit.inBlock, Exit.then])
    first
      | exact HF
      | exact hN _ _ _ _ _ _ _ _ _ _ _ _ _ _ _ _ _ _ _ _ _ _ _ _ _ _ _ _ _ _ _ _ _ _ _ _ _ _ _ _ _ _ _ _ _ _ _ _ _ _ _ _ _ _ _ _ _ _ _ _ _ _ _ _ _ _ _ _ _ _ _ _ _ _ _ _ _ _ _ _ _ _ _ _ _ _ _ _ _ _ _ _ _ _ _ _ _ _ _ _ _ _ _ _ _ _ _ _ _ HF
  · clear hd0 hd1
    go_wp2_with fail
    (with_reducible refine (arg237_any HI3.out.arg hB).mono ?_)
    rintro e w4 ⟨b0, b1, b2, b3, rfl, hst4, hq4⟩
    have HI4 : Hid (OpI w4 wI B s hp hs hk SA sn sc xs kA kn kc ks hx nm A1 n1 c1 A2 n2 c2 A3 n3 c3 A4 n4 c4 l4 OA on oc os PA pn pc) := Lib.hid (HI3.out.next hst4 hq4)
    have HO4 : Hid (Bk w4 ho 344 #[.int .i64 4, .int .i64 0, .int .i64 0, .bool a0, .int .i64 a1, .int .i64 a2, .int .i64 a3, .bool false, .int .i64 0, .int .i64 0, .int .i64 0]) := Lib.hid ((Kx.fq (B' := 0) hq4 HI3.out.arg.st (Nat.zero_le _)).bk HO3.out (by decide))
    clear hst4 hq4 HI3 HO3 p4
    have z7 : w4.cell? ⟨ho, 7, none⟩ = some (.bool false) := HO4.out.cell 7
    have z8 : w4.cell? ⟨ho, 8, none⟩ = some (.int .i64 0) := HO4.out.cell 8
    have z9 : w4.cell? ⟨ho, 9, none⟩ = some (.int .i64 0) := HO4.out.cell 9
    have z10 : w4.cell? ⟨ho, 10, none⟩ = some (.int .i64 0) := HO4.out.cell 10
    have y7 := HO4.out.frozen 7
    have y8 := HO4.out.frozen 8
    have y9 := HO4.out.frozen 9
    have y10 := HO4.out.frozen 10
    obtain ⟨w5, hw5⟩ : ∃ z, z = (((w4.setCell ⟨ho, 7, none⟩ (.bool b0)).setCell ⟨ho, 8, none⟩ (.int .i64 b1)).setCell ⟨ho, 9, none⟩ (.int .i64 b2)).setCell ⟨ho, 10, none⟩ (.int .i64 b3) := ⟨_, rfl⟩
    have HO5 : Hid (Bk w5 ho 344 #[.int .i64 4, .int .i64 0, .int .i64 0, .bool a0, .int .i64 a1, .int .i64 a2, .int .i64 a3, .bool b0, .int .i64 b1, .int .i64 b2, .int .i64 b3]) := Lib.hid (by rw [hw5]; simpa using (((HO4.out.set_ 7 (.bool b0)).set_ 8 (.int .i64 b1)).set_ 9 (.int .i64 b2)).set_ 10 (.int .i64 b3))
    have HI5 : Hid (OpI w5 wI B s hp hs hk SA sn sc xs kA kn kc ks hx nm A1 n1 c1 A2 n2 c2 A3 n3 c3 A4 n4 c4 l4 OA on oc os PA pn pc) := Lib.hid (by
      have hBO : B ≤ ho := Nat.le_trans hBI hoI
      rw [hw5]
      exact HI4.out.op hB HO4.out hoI ((((Kx.refl.set HO4.out hBO (by simp) 7 (.bool b0)).set (HO4.out.set_ 7 _) hBO (by simp) 8 (.int .i64 b1)).set ((HO4.out.set_ 7 _).set_ 8 _) hBO (by simp) 9 (.int .i64 b2)).set (((HO4.out.set_ 7 _).set_ 8 _).set_ 9 _) hBO (by simp) 10 (.int .i64 b3)) ((((HI4.out.fq.set (.inr hoI) 7 _).set (.inr hoI) 8 _).set (.inr hoI) 9 _).set (.inr hoI) 10 _) (own_farB (own_farB (own_farB (own_farB HI4.out.ops hno) hno) hno) hno))
    go_upto_block 5 with fail
    rw [← hw5]
    clear hw5 z7 z8 z9 z10 y7 y8 y9 y10 HI4 HO4
    refine sySw_any HI5.out hB hBI HO5.out hoI hno HON.out hkn hk1 (by decide) (by decide) ?_
    intros
    rename_i d' t0' t1' a0' a1' a2' a3' b0' b1' b2' b3' PA' pn' pc' w7 H7
    have HI7 := Lib.hid H7.out.1
    have HO7 := Lib.hid H7.out.2
    clear H7
    go_upto_region 31 with fail
    refine sy31_any HI7.out hB hBI HO7.out hon ?_
    intros
    rename_i OA2 oc2 os2 w8 HF
    clear HI7 HO7
    go_wp2_with fail
    (try simp only [Exit.inBlock, Exit.then])
    first
      | exact HF
      | exact hN _ _ _ _ _ _ _ _ _ _ _ _ _ _ _ _ _ _ _ _ _ _ _ _ _ _ _ _ _ _ _ _ _ _ _ _ _ _ _ _ _ _ _ _ _ _ _ _ _ _ _ _ _ _ _ _ _ _ _ _ _ _ _ _ _ _ _ _ _ _ _ _ _ _ _ _ _ _ _ _ _ _ _ _ _ _ _ _ _ _ _ _ _ _ _ _ _ _ _ _ _ _ _ _ _ _ _ _ _ HF
  · clear hd0 hd1
    go_wp2_with fail
    (with_reducible refine (arg237_any HI3.out.arg hB).mono ?_)
    rintro e w4 ⟨b0, b1, b2, b3, rfl, hst4, hq4⟩
    have HI4 : Hid (OpI w4 wI B s hp hs hk SA sn sc xs kA kn kc ks hx nm A1 n1 c1 A2 n2 c2 A3 n3 c3 A4 n4 c4 l4 OA on oc os PA pn pc) := Lib.hid (HI3.out.next hst4 hq4)
    have HO4 : Hid (Bk w4 ho 344 #[.int .i64 5, .int .i64 0, .int .i64 0, .bool a0, .int .i64 a1, .int .i64 a2, .int .i64 a3, .bool false, .int .i64 0, .int .i64 0, .int .i64 0]) := Lib.hid ((Kx.fq (B' := 0) hq4 HI3.out.arg.st (Nat.zero_le _)).bk HO3.out (by decide))
    clear hst4 hq4 HI3 HO3 p4
    have z7 : w4.cell? ⟨ho, 7, none⟩ = some (.bool false) := HO4.out.cell 7
    have z8 : w4.cell? ⟨ho, 8, none⟩ = some (.int .i64 0) := HO4.out.cell 8
    have z9 : w4.cell? ⟨ho, 9, none⟩ = some (.int .i64 0) := HO4.out.cell 9
    have z10 : w4.cell? ⟨ho, 10, none⟩ = some (.int .i64 0) := HO4.out.cell 10
    have y7 := HO4.out.frozen 7
    have y8 := HO4.out.frozen 8
    have y9 := HO4.out.frozen 9
    have y10 := HO4.out.frozen 10
    obtain ⟨w5, hw5⟩ : ∃ z, z = (((w4.setCell ⟨ho, 7, none⟩ (.bool b0)).setCell ⟨ho, 8, none⟩ (.int .i64 b1)).setCell ⟨ho, 9, none⟩ (.int .i64 b2)).setCell ⟨ho, 10, none⟩ (.int .i64 b3) := ⟨_, rfl⟩
    have HO5 : Hid (Bk w5 ho 344 #[.int .i64 5, .int .i64 0, .int .i64 0, .bool a0, .int .i64 a1, .int .i64 a2, .int .i64 a3, .bool b0, .int .i64 b1, .int .i64 b2, .int .i64 b3]) := Lib.hid (by rw [hw5]; simpa using (((HO4.out.set_ 7 (.bool b0)).set_ 8 (.int .i64 b1)).set_ 9 (.int .i64 b2)).set_ 10 (.int .i64 b3))
    have HI5 : Hid (OpI w5 wI B s hp hs hk SA sn sc xs kA kn kc ks hx nm A1 n1 c1 A2 n2 c2 A3 n3 c3 A4 n4 c4 l4 OA on oc os PA pn pc) := Lib.hid (by
      have hBO : B ≤ ho := Nat.le_trans hBI hoI
      rw [hw5]
      exact HI4.out.op hB HO4.out hoI ((((Kx.refl.set HO4.out hBO (by simp) 7 (.bool b0)).set (HO4.out.set_ 7 _) hBO (by simp) 8 (.int .i64 b1)).set ((HO4.out.set_ 7 _).set_ 8 _) hBO (by simp) 9 (.int .i64 b2)).set (((HO4.out.set_ 7 _).set_ 8 _).set_ 9 _) hBO (by simp) 10 (.int .i64 b3)) ((((HI4.out.fq.set (.inr hoI) 7 _).set (.inr hoI) 8 _).set (.inr hoI) 9 _).set (.inr hoI) 10 _) (own_farB (own_farB (own_farB (own_farB HI4.out.ops hno) hno) hno) hno))
    go_upto_block 5 with fail
    rw [← hw5]
    clear hw5 z7 z8 z9 z10 y7 y8 y9 y10 HI4 HO4
    refine sySw_any HI5.out hB hBI HO5.out hoI hno HON.out hkn hk1 (by decide) (by decide) ?_
    intros
    rename_i d' t0' t1' a0' a1' a2' a3' b0' b1' b2' b3' PA' pn' pc' w7 H7
    have HI7 := Lib.hid H7.out.1
    have HO7 := Lib.hid H7.out.2
    clear H7
    go_upto_region 31 with fail
    refine sy31_any HI7.out hB hBI HO7.out hon ?_
    intros
    rename_i OA2 oc2 os2 w8 HF
    clear HI7 HO7
    go_wp2_with fail
    (try simp only [Exit.inBlock, Exit.then])
    first
      | exact HF
      | exact hN _ _ _ _ _ _ _ _ _ _ _ _ _ _ _ _ _ _ _ _ _ _ _ _ _ _ _ _ _ _ _ _ _ _ _ _ _ _ _ _ _ _ _ _ _ _ _ _ _ _ _ _ _ _ _ _ _ _ _ _ _ _ _ _ _ _ _ _ _ _ _ _ _ _ _ _ _ _ _ _ _ _ _ _ _ _ _ _ _ _ _ _ _ _ _ _ _ _ _ _ _ _ _ _ _ _ _ _ _ HF
  · clear hd0 hd1
    go_wp2_with fail
    (with_reducible refine (arg237_any HI3.out.arg hB).mono ?_)
    rintro e w4 ⟨b0, b1, b2, b3, rfl, hst4, hq4⟩
    have HI4 : Hid (OpI w4 wI B s hp hs hk SA sn sc xs kA kn kc ks hx nm A1 n1 c1 A2 n2 c2 A3 n3 c3 A4 n4 c4 l4 OA on oc os PA pn pc) := Lib.hid (HI3.out.next hst4 hq4)
    have HO4 : Hid (Bk w4 ho 344 #[.int .i64 6, .int .i64 0, .int .i64 0, .bool a0, .int .i64 a1, .int .i64 a2, .int .i64 a3, .bool false, .int .i64 0, .int .i64 0, .int .i64 0]) := Lib.hid ((Kx.fq (B' := 0) hq4 HI3.out.arg.st (Nat.zero_le _)).bk HO3.out (by decide))
    clear hst4 hq4 HI3 HO3 p4
    have z7 : w4.cell? ⟨ho, 7, none⟩ = some (.bool false) := HO4.out.cell 7
    have z8 : w4.cell? ⟨ho, 8, none⟩ = some (.int .i64 0) := HO4.out.cell 8
    have z9 : w4.cell? ⟨ho, 9, none⟩ = some (.int .i64 0) := HO4.out.cell 9
    have z10 : w4.cell? ⟨ho, 10, none⟩ = some (.int .i64 0) := HO4.out.cell 10
    have y7 := HO4.out.frozen 7
    have y8 := HO4.out.frozen 8
    have y9 := HO4.out.frozen 9
    have y10 := HO4.out.frozen 10
    obtain ⟨w5, hw5⟩ : ∃ z, z = (((w4.setCell ⟨ho, 7, none⟩ (.bool b0)).setCell ⟨ho, 8, none⟩ (.int .i64 b1)).setCell ⟨ho, 9, none⟩ (.int .i64 b2)).setCell ⟨ho, 10, none⟩ (.int .i64 b3) := ⟨_, rfl⟩
    have HO5 : Hid (Bk w5 ho 344 #[.int .i64 6, .int .i64 0, .int .i64 0, .bool a0, .int .i64 a1, .int .i64 a2, .int .i64 a3, .bool b0, .int .i64 b1, .int .i64 b2, .int .i64 b3]) := Lib.hid (by rw [hw5]; simpa using (((HO4.out.set_ 7 (.bool b0)).set_ 8 (.int .i64 b1)).set_ 9 (.int .i64 b2)).set_ 10 (.int .i64 b3))
    have HI5 : Hid (OpI w5 wI B s hp hs hk SA sn sc xs kA kn kc ks hx nm A1 n1 c1 A2 n2 c2 A3 n3 c3 A4 n4 c4 l4 OA on oc os PA pn pc) := Lib.hid (by
      have hBO : B ≤ ho := Nat.le_trans hBI hoI
      rw [hw5]
      exact HI4.out.op hB HO4.out hoI ((((Kx.refl.set HO4.out hBO (by simp) 7 (.bool b0)).set (HO4.out.set_ 7 _) hBO (by simp) 8 (.int .i64 b1)).set ((HO4.out.set_ 7 _).set_ 8 _) hBO (by simp) 9 (.int .i64 b2)).set (((HO4.out.set_ 7 _).set_ 8 _).set_ 9 _) hBO (by simp) 10 (.int .i64 b3)) ((((HI4.out.fq.set (.inr hoI) 7 _).set (.inr hoI) 8 _).set (.inr hoI) 9 _).set (.inr hoI) 10 _) (own_farB (own_farB (own_farB (own_farB HI4.out.ops hno) hno) hno) hno))
    go_upto_block 5 with fail
    rw [← hw5]
    clear hw5 z7 z8 z9 z10 y7 y8 y9 y10 HI4 HO4
    refine sySw_any HI5.out hB hBI HO5.out hoI hno HON.out hkn hk1 (by decide) (by decide) ?_
    intros
    rename_i d' t0' t1' a0' a1' a2' a3' b0' b1' b2' b3' PA' pn' pc' w7 H7
    have HI7 := Lib.hid H7.out.1
    have HO7 := Lib.hid H7.out.2
    clear H7
    go_upto_region 31 with fail
    refine sy31_any HI7.out hB hBI HO7.out hon ?_
    intros
    rename_i OA2 oc2 os2 w8 HF
    clear HI7 HO7
    go_wp2_with fail
    (try simp only [Exit.inBlock, Exit.then])
    first
      | exact HF
      | exact hN _ _ _ _ _ _ _ _ _ _ _ _ _ _ _ _ _ _ _ _ _ _ _ _ _ _ _ _ _ _ _ _ _ _ _ _ _ _ _ _ _ _ _ _ _ _ _ _ _ _ _ _ _ _ _ _ _ _ _ _ _ _ _ _ _ _ _ _ _ _ _ _ _ _ _ _ _ _ _ _ _ _ _ _ _ _ _ _ _ _ _ _ _ _ _ _ _ _ _ _ _ _ _ _ _ _ _ _ _ HF
  · clear hd0 hd1
    go_upto_block 5 with fail
    clear p4
    refine sySw_any HI3.out hB hBI HO3.out hoI hno HON.out hkn hk1 (by decide) (by decide) ?_
    intros
    rename_i d' t0' t1' a0' a1' a2' a3' b0' b1' b2' b3' PA' pn' pc' w7 H7
    have HI7 := Lib.hid H7.out.1
    have HO7 := Lib.hid H7.out.2
    clear H7
    go_upto_region 31 with fail
    refine sy31_any HI7.out hB hBI HO7.out hon ?_
    intros
    rename_i OA2 oc2 os2 w8 HF
    clear HI7 HO7
    go_wp2_with fail
    (try simp only [Exit.inBlock, Exit.then])
    first
      | exact HF
      | exact hN _ _ _ _ _ _ _ _ _ _ _ _ _ _ _ _ _ _ _ _ _ _ _ _ _ _ _ _ _ _ _ _ _ _ _ _ _ _ _ _ _ _ _ _ _ _ _ _ _ _ _ _ _ _ _ _ _ _ _ _ _ _ _ _ _ _ _ _ _ _ _ _ _ _ _ _ _ _ _ _ _ _ _ _ _ _ _ _ _ _ _ _ _ _ _ _ _ _ _ _ _ _ _ _ _ _ _ _ _ HF
  · clear hd0 hd1
    go_upto_block 5 with fail
    clear p4
    refine sySw_any HI3.out hB hBI HO3.out hoI hno HON.out hkn hk1 (by decide) (by decide) ?_
    intros
    rename_i d' t0' t1' a0' a1' a2' a3' b0' b1' b2' b3' PA' pn' pc' w7 H7
    have HI7 := Lib.hid H7.out.1
    have HO7 := Lib.hid H7.out.2
    clear H7
    go_upto_region 31 with fail
    refine sy31_any HI7.out hB hBI HO7.out hon ?_
    intros
    rename_i OA2 oc2 os2 w8 HF
    clear HI7 HO7
    go_wp2_with fail
    (try simp only [Exit.inBlock, Exit.then])
    first
      | exact HF
      | exact hN _ _ _ _ _ _ _ _ _ _ _ _ _ _ _ _ _ _ _ _ _ _ _ _ _ _ _ _ _ _ _ _ _ _ _ _ _ _ _ _ _ _ _ _ _ _ _ _ _ _ _ _ _ _ _ _ _ _ _ _ _ _ _ _ _ _ _ _ _ _ _ _ _ _ _ _ _ _ _ _ _ _ _ _ _ _ _ _ _ _ _ _ _ _ _ _ _ _ _ _ _ _ _ _ _ _ _ _ _ HF
  · clear hd0 hd1
    go_upto_block 5 with fail
    clear p4
    refine sySw_any HI3.out hB hBI HO3.out hoI hno HON.out hkn hk1 (by decide) (by decide) ?_
    intros
    rename_i d' t0' t1' a0' a1' a2' a3' b0' b1' b2' b3' PA' pn' pc' w7 H7
    have HI7 := Lib.hid H7.out.1
    have HO7 := Lib.hid H7.out.2
    clear H7
    go_upto_region 31 with fail
    refine sy31_any HI7.out hB hBI HO7.out hon ?_
    intros
    rename_i OA2 oc2 os2 w8 HF
    clear HI7 HO7
    go_wp2_with fail
    (try simp only [Exit.inBlock, Exit.then])
    first
      | exact HF
      | exact hN _ _ _ _ _ _ _ _ _ _ _ _ _ _ _ _ _ _ _ _ _ _ _ _ _ _ _ _ _ _ _ _ _ _ _ _ _ _ _ _ _ _ _ _ _ _ _ _ _ _ _ _ _ _ _ _ _ _ _ _ _ _ _ _ _ _ _ _ _ _ _ _ _ _ _ _ _ _ _ _ _ _ _ _ _ _ _ _ _ _ _ _ _ _ _ _ _ _ _ _ _ _ _ _ _ _ _ _ _ HF
  · clear hd0 hd1
    go_upto_block 5 with fail
    clear p4
    refine sySw_any HI3.out hB hBI HO3.out hoI hno HON.out hkn hk1 (by decide) (by decide) ?_
    intros
    rename_i d' t0' t1' a0' a1' a2' a3' b0' b1' b2' b3' PA' pn' pc' w7 H7
    have HI7 := Lib.hid H7.out.1
    have HO7 := Lib.hid H7.out.2
    clear H7
    go_upto_region 31 with fail
    refine sy31_any HI7.out hB hBI HO7.out hon ?_
    intros
    rename_i OA2 oc2 os2 w8 HF
    clear HI7 HO7
    go_wp2_with fail
    (try simp only [Exit.inBlock, Exit.then])
    first
      | exact HF
      | exact hN _ _ _ _ _ _ _ _ _ _ _ _ _ _ _ _ _ _ _ _ _ _ _ _ _ _ _ _ _ _ _ _ _ _ _ _ _ _ _ _ _ _ _ _ _ _ _ _ _ _ _ _ _ _ _ _ _ _ _ _ _ _ _ _ _ _ _ _ _ _ _ _ _ _ _ _ _ _ _ _ _ _ _ _ _ _ _ _ _ _ _ _ _ _ _ _ _ _ _ _ _ _ _ _ _ _ _ _ _ HF
  · clear hd0 hd1
    go_upto_block 5 with fail
    clear p4
    refine sySw_any HI3.out hB hBI HO3.out hoI hno HON.out hkn hk1 (by decide) (by decide) ?_
    intros
    rename_i d' t0' t1' a0' a1' a2' a3' b0' b1' b2' b3' PA' pn' pc' w7 H7
    have HI7 := Lib.hid H7.out.1
    have HO7 := Lib.hid H7.out.2
    clear H7
    go_upto_region 31 with fail
    refine sy31_any HI7.out hB hBI HO7.out hon ?_
    intros
    rename_i OA2 oc2 os2 w8 HF
    clear HI7 HO7
    go_wp2_with fail
    (try simp only [Exit.inBlock, Exit.then])
    first
      | exact HF
      | exact hN _ _ _ _ _ _ _ _ _ _ _ _ _ _ _ _ _ _ _ _ _ _ _ _ _ _ _ _ _ _ _ _ _ _ _ _ _ _ _ _ _ _ _ _ _ _ _ _ _ _ _ _ _ _ _ _ _ _ _ _ _ _ _ _ _ _ _ _ _ _ _ _ _ _ _ _ _ _ _ _ _ _ _ _ _ _ _ _ _ _ _ _ _ _ _ _ _ _ _ _ _ _ _ _ _ _ _ _ _ HF
  · clear hd0 hd1
    go_wp2_with fail
    (with_reducible refine (arg237_any HI3.out.arg hB).mono ?_)
    rintro e w4 ⟨b0, b1, b2, b3, rfl, hst4, hq4⟩
    have HI4 : Hid (OpI w4 wI B s hp hs hk SA sn sc xs kA kn kc ks hx nm A1 n1 c1 A2 n2 c2 A3 n3 c3 A4 n4 c4 l4 OA on oc os PA pn pc) := Lib.hid (HI3.out.next hst4 hq4)
    have HO4 : Hid (Bk w4 ho 344 #[.int .i64 12, .int .i64 0, .int .i64 0, .bool a0, .int .i64 a1, .int .i64 a2, .int .i64 a3, .bool false, .int .i64 0, .int .i64 0, .int .i64 0]) := Lib.hid ((Kx.fq (B' := 0) hq4 HI3.out.arg.st (Nat.zero_le _)).bk HO3.out (by decide))
    clear hst4 hq4 HI3 HO3 p4
    have z7 : w4.cell? ⟨ho, 7, none⟩ = some (.bool false) := HO4.out.cell 7
    have z8 : w4.cell? ⟨ho, 8, none⟩ = some (.int .i64 0) := HO4.out.cell 8
    have z9 : w4.cell? ⟨ho, 9, none⟩ = some (.int .i64 0) := HO4.out.cell 9
    have z10 : w4.cell? ⟨ho, 10, none⟩ = some (.int .i64 0) := HO4.out.cell 10
    have y7 := HO4.out.frozen 7
    have y8 := HO4.out.frozen 8
    have y9 := HO4.out.frozen 9
    have y10 := HO4.out.frozen 10
    obtain ⟨w5, hw5⟩ : ∃ z, z = (((w4.setCell ⟨ho, 7, none⟩ (.bool b0)).setCell ⟨ho, 8, none⟩ (.int .i64 b1)).setCell ⟨ho, 9, none⟩ (.int .i64 b2)).setCell ⟨ho, 10, none⟩ (.int .i64 b3) := ⟨_, rfl⟩
    have HO5 : Hid (Bk w5 ho 344 #[.int .i64 12, .int .i64 0, .int .i64 0, .bool a0, .int .i64 a1, .int .i64 a2, .int .i64 a3, .bool b0, .int .i64 b1, .int .i64 b2, .int .i64 b3]) := Lib.hid (by rw [hw5]; simpa using (((HO4.out.set_ 7 (.bool b0)).set_ 8 (.int .i64 b1)).set_ 9 (.int .i64 b2)).set_ 10 (.int .i64 b3))
    have HI5 : Hid (OpI w5 wI B s hp hs hk SA sn sc xs kA kn kc ks hx nm A1 n1 c1 A2 n2 c2 A3 n3 c3 A4 n4 c4 l4 OA on oc os PA pn pc) := Lib.hid (by
      have hBO : B ≤ ho := Nat.le_trans hBI hoI
      rw [hw5]
      exact HI4.out.op hB HO4.out hoI ((((Kx.refl.set HO4.out hBO (by simp) 7 (.bool b0)).set (HO4.out.set_ 7 _) hBO (by simp) 8 (.int .i64 b1)).set ((HO4.out.set_ 7 _).set_ 8 _) hBO (by simp) 9 (.int .i64 b2)).set (((HO4.out.set_ 7 _).set_ 8 _).set_ 9 _) hBO (by simp) 10 (.int .i64 b3)) ((((HI4.out.fq.set (.inr hoI) 7 _).set (.inr hoI) 8 _).set (.inr hoI) 9 _).set (.inr hoI) 10 _) (own_farB (own_farB (own_farB (own_farB HI4.out.ops hno) hno) hno) hno))
    go_upto_block 5 with fail
    rw [← hw5]
    clear hw5 z7 z8 z9 z10 y7 y8 y9 y10 HI4 HO4
    refine sySw_any HI5.out hB hBI HO5.out hoI hno HON.out hkn hk1 (by decide) (by decide) ?_
    intros
    rename_i d' t0' t1' a0' a1' a2' a3' b0' b1' b2' b3' PA' pn' pc' w7 H7
    have HI7 := Lib.hid H7.out.1
    have HO7 := Lib.hid H7.out.2
    clear H7
    go_upto_region 31 with fail
    refine sy31_any HI7.out hB hBI HO7.out hon ?_
    intros
    rename_i OA2 oc2 os2 w8 HF
    clear HI7 HO7
    go_wp2_with fail
    (try simp only [Exit.inBlock, Exit.then])
    first
      | exact HF
      | exact hN _ _ _ _ _ _ _ _ _ _ _ _ _ _ _ _ _ _ _ _ _ _ _ _ _ _ _ _ _ _ _ _ _ _ _ _ _ _ _ _ _ _ _ _ _ _ _ _ _ _ _ _ _ _ _ _ _ _ _ _ _ _ _ _ _ _ _ _ _ _ _ _ _ _ _ _ _ _ _ _ _ _ _ _ _ _ _ _ _ _ _ _ _ _ _ _ _ _ _ _ _ _ _ _ _ _ _ _ _ HF
end Go.Proofs.Ytnidcmhfbkdioaa
