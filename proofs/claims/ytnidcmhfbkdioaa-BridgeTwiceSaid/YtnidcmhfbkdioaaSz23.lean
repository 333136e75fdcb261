/-
  tourmake.system: an operation's parts are drawn. Conditions: what is read can be read.
-/
import Derived.Test.YtnidcmhfbkdioaaSz22
import Derived.Test.YtnidcmhfbkdioaaSz12
namespace Go.Proofs.Ytnidcmhfbkdioaa
open Go.RowKit
set_option maxRecDepth 100000
/-- A system whose operations are being made. -/
structure OpI (w wI : World) (B s hp hs hk : Nat) (SA : Option Addr) (sn sc : Nat) (xs : List Int) (kA : Option Addr) (kn kc : Nat) (ks : List Kd) (hx : Nat) (nm : ByteArray) (A1 : Option Addr) (n1 c1 : Nat) (A2 : Option Addr) (n2 c2 : Nat) (A3 : Option Addr) (n3 c3 : Nat) (A4 : Option Addr) (n4 c4 : Nat) (l4 : List Int) (OA : Option Addr) (on oc : Nat) (os : List Value) (PA : Option Addr) (pn pc : Nat) : Prop where
  arg : ArgI w B s hp hs hk SA sn sc xs kA kn kc ks
  bx : Bk w hx 307 #[.string nm, .slice A1 n1 c1, .slice A2 n2 c2, .slice A3 n3 c3, .slice A4 n4 c4, .slice OA on oc, .slice PA pn pc]
  w4 : RdY w 0 3 1 A4 n4 (l4.map (Value.int .i64))
  cap4 : n4 ≤ c4
  cap42 : c4 ≤ 9223372036854775807
  i4 : ∀ x ∈ l4, 0 ≤ x ∧ x < (kn : Int)
  few4 : n4 ≤ 1000
  ops : w.ownsRow wI.heap.size 344 11 (.slice OA on oc) on os
  fq : Fq [s] wI w
  lx : wI.heap.size ≤ hx
  sz : wI.heap.size ≤ w.heap.size
section
variable {w w' wI : World} {B s hp hs hk hx ho sn sc kn kc n1 c1 n2 c2 n3 c3 n4 c4 on oc pn pc : Nat} {SA kA A1 A2 A3 A4 OA PA : Option Addr} {xs l4 : List Int} {ks : List Kd} {nm : ByteArray} {os : List Value}
theorem OpI.next (h : OpI w wI B s hp hs hk SA sn sc xs kA kn kc ks hx nm A1 n1 c1 A2 n2 c2 A3 n3 c3 A4 n4 c4 l4 OA on oc os PA pn pc) (hst : StrSt w' B s) (hq : Fq [s] w w') : OpI w' wI B s hp hs hk SA sn sc xs kA kn kc ks hx nm A1 n1 c1 A2 n2 c2 A3 n3 c3 A4 n4 c4 l4 OA on oc os PA pn pc := by
  have hk := Kx.fq (B' := 0) hq h.arg.st (Nat.zero_le _)
  exact ⟨h.arg.fq hst hq, hk.bk h.bx (by decide), h.w4.keep hk (by decide), h.cap4, h.cap42, h.i4, h.few4, hk.own h.ops (by decide), h.fq.trans hq (SubF.refl _ _), h.lx, Nat.le_trans h.sz hq.size⟩
theorem OpI.drew_ (h : OpI w wI B s hp hs hk SA sn sc xs kA kn kc ks hx nm A1 n1 c1 A2 n2 c2 A3 n3 c3 A4 n4 c4 l4 OA on oc os PA pn pc) (hB : B ≤ s) : OpI w.drew wI B s hp hs hk SA sn sc xs kA kn kc ks hx nm A1 n1 c1 A2 n2 c2 A3 n3 c3 A4 n4 c4 l4 OA on oc os PA pn pc := h.next (h.arg.st.below (Below.refl _ _).drew (h.arg.st.lo hB)) Fq.refl.drew
end
section
variable {w w' wI : World} {B s hp hs hk hx ho sn sc kn kc n1 c1 n2 c2 n3 c3 n4 c4 on oc pn pc : Nat} {SA kA A1 A2 A3 A4 OA PA : Option Addr} {xs l4 : List Int} {ks : List Kd} {nm : ByteArray} {os : List Value}
/-- A store into the operation. -/
theorem OpI.op {cs : Array Value} (h : OpI w wI B s hp hs hk SA sn sc xs kA kn kc ks hx nm A1 n1 c1 A2 n2 c2 A3 n3 c3 A4 n4 c4 l4 OA on oc os PA pn pc) (hB : B ≤ s) (_ho : Bk w ho 344 cs) (_hoI : wI.heap.size ≤ ho) (hq : Kx B [344] w w') (hf : Fq [s] wI w') (hno : w'.ownsRow wI.heap.size 344 11 (.slice OA on oc) on os) : OpI w' wI B s hp hs hk SA sn sc xs kA kn kc ks hx nm A1 n1 c1 A2 n2 c2 A3 n3 c3 A4 n4 c4 l4 OA on oc os PA pn pc := by
  have hk := hq.mono (Nat.zero_le _) (fun _ h => h)
  exact ⟨⟨h.arg.st.kx hq (Nat.le_refl _) (h.arg.st.lo hB) (by decide), hk.bk h.arg.bp (by decide), hk.bk h.arg.bs (by decide), hk.bk h.arg.bk (by decide), h.arg.rd.keep hk (by decide), h.arg.cap, h.arg.cap2, h.arg.pos, h.arg.few, h.arg.inn, h.arg.kd.keep hk (by decide) (by decide), h.arg.fd⟩, hk.bk h.bx (by decide), h.w4.keep hk (by decide), h.cap4, h.cap42, h.i4, h.few4, hno, hf, h.lx, Nat.le_trans h.sz hq.size⟩
end
noncomputable def syR25 : Code := (Try.f198.body.bind (rgnN 25)).getD .skip
set_option maxHeartbeats 8000000 in
theorem sy25_any {x0 x1 x2 x5 x6 x8 x9 x12 x13 x14 x15 x16 x17 x18 x19 x20 x21 x22 x23 x24 x25 x26 x27 x28 x29 x30 x31 x32 x33 x34 x35 x36 x37 x38 x39 x40 x41 x42 x43 x44 x45 x46 x47 x48 x49 x50 x51 x52 x53 x54 x55 x56 x57 x58 x59 x60 x61 x62 x63 x64 x65 x66 x67 x68 x69 x70 x71 x72 x73 x74 x75 x76 x77 x78 x79 x80 x81 x82 x83 x84 x85 x86 x87 x88 x89 x90 x91 x92 x93 x94 x95 x96 x97 x98 x99 x100 x101 x102 x103 x104 x105 x106 x107 x108 x109 x110 x111 x112 x113 x114 x115 x116 x117 x118 x119 x120 x121 x122 x123 x124 x125 x126 x127 x128 x129 x130 x131 x132 x133 x134 x135 x136 x137 x138 x139 x140 x141 x142 x143 x144 x145 x146 x147 x148 x149 x150 x151 x152 x153 x154 x155 x156 x157 x158 x159 x160 x161 x162 x163 x164 x165 x166 x167 x168 x169 x170 x171 x172 x173 x174 x175 x176 x177 x178 x179 x180 x181 x182 x183 x184 x185 x186 : Value} {Q : Exit → Act → World → Prop} {wI w0 : World} {B s hp hs hk hx ho sn sc kn kc n1 c1 n2 c2 n3 c3 n4 c4 on oc pn pc : Nat} {SA kA A1 A2 A3 A4 OA PA : Option Addr} {xs l4 : List Int} {ks : List Kd} {nm : ByteArray} {os : List Value} {_d _t0 _t1 : Int} {_a0 : Bool} {_a1 _a2 _a3 : Int} {_b0 : Bool} {_b1 _b2 _b3 : Int}
    (hI : OpI w0 wI B s hp hs hk SA sn sc xs kA kn kc ks hx nm A1 n1 c1 A2 n2 c2 A3 n3 c3 A4 n4 c4 l4 OA on oc os PA pn pc) (hB : B ≤ s) (h4 : 0 < n4)
    (hN : ∀ (y130 y131 y132 y133 y134 y135 y136 y137 y138 : Value) (x : Nat) (w' : World), Hid (x < kn ∧ OpI w' wI B s hp hs hk SA sn sc xs kA kn kc ks hx nm A1 n1 c1 A2 n2 c2 A3 n3 c3 A4 n4 c4 l4 OA on oc os PA pn pc ∧ Fq [s] w0 w') → Q .normal ⟨#[x0, x1, x2, .pointer (some ⟨hk, 0, none⟩), .pointer (some ⟨hp, 0, none⟩), x5, x6, .pointer (some ⟨hx, 0, none⟩), x8, x9, .func (.func 237) #[] #[.pointer (some ⟨hp, 0, none⟩), .pointer (some ⟨hs, 0, none⟩), .pointer (some ⟨hk, 0, none⟩)], .pointer (some ⟨ho, 0, none⟩), .int .i64 (x : Int), x13, x14, x15, x16, x17, x18, x19, x20, x21, x22, x23, x24, x25, x26, x27, x28, x29, x30, x31, x32, x33, x34, x35, x36, x37, x38, x39, x40, x41, x42, x43, x44, x45, x46, x47, x48, x49, x50, x51, x52, x53, x54, x55, x56, x57, x58, x59, x60, x61, x62, x63, x64, x65, x66, x67, x68, x69, x70, x71, x72, x73, x74, x75, x76, x77, x78, x79, x80, x81, x82, x83, x84, x85, x86, x87, x88, x89, x90, x91, x92, x93, x94, x95, x96, x97, x98, x99, x100, x101, x102, x103, x104, x105, x106, x107, x108, x109, x110, x111, x112, x113, x114, x115, x116, x117, x118, x119, x120, x121, x122, x123, x124, x125, x126, x127, x128, x129, y130, y131, y132, y133, y134, y135, y136, y137, y138, x139, x140, x141, x142, x143, x144, x145, x146, x147, x148, x149, x150, x151, x152, x153, x154, x155, x156, x157, x158, x159, x160, x161, x162, x163, x164, x165, x166, x167, x168, x169, x170, x171, x172, x173, x174, x175, x176, x177, x178, x179, x180, x181, x182, x183, x184, x185, x186], []⟩ w') :
    Code.wp Try.prog syR25 Q ⟨#[x0, x1, x2, .pointer (some ⟨hk, 0, none⟩), .pointer (some ⟨hp, 0, none⟩), x5, x6, .pointer (some ⟨hx, 0, none⟩), x8, x9, .func (.func 237) #[] #[.pointer (some ⟨hp, 0, none⟩), .pointer (some ⟨hs, 0, none⟩), .pointer (some ⟨hk, 0, none⟩)], .pointer (some ⟨ho, 0, none⟩), x12, x13, x14, x15, x16, x17, x18, x19, x20, x21, x22, x23, x24, x25, x26, x27, x28, x29, x30, x31, x32, x33, x34, x35, x36, x37, x38, x39, x40, x41, x42, x43, x44, x45, x46, x47, x48, x49, x50, x51, x52, x53, x54, x55, x56, x57, x58, x59, x60, x61, x62, x63, x64, x65, x66, x67, x68, x69, x70, x71, x72, x73, x74, x75, x76, x77, x78, x79, x80, x81, x82, x83, x84, x85, x86, x87, x88, x89, x90, x91, x92, x93, x94, x95, x96, x97, x98, x99, x100, x101, x102, x103, x104, x105, x106, x107, x108, x109, x110, x111, x112, x113, x114, x115, x116, x117, x118, x119, x120, x121, x122, x123, x124, x125, x126, x127, x128, x129, x130, x131, x132, x133, x134, x135, x136, x137, x138, x139, x140, x141, x142, x143, x144, x145, x146, x147, x148, x149, x150, x151, x152, x153, x154, x155, x156, x157, x158, x159, x160, x161, x162, x163, x164, x165, x166, x167, x168, x169, x170, x171, x172, x173, x174, x175, x176, x177, x178, x179, x180, x181, x182, x183, x184, x185, x186], []⟩ w0 := by
  conv => arg 2; whnf
  have HNX := Lib.hid next_any
  obtain ⟨u1, hu1⟩ : ∃ z, z = w0.drew := ⟨_, rfl⟩
  have HC1 : Hid (OpI u1 wI B s hp hs hk SA sn sc xs kA kn kc ks hx nm A1 n1 c1 A2 n2 c2 A3 n3 c3 A4 n4 c4 l4 OA on oc os PA pn pc) := Lib.hid (by rw [hu1]; exact hI.drew_ hB)
  have HQ1 : Hid (Fq [s] w0 u1) := Lib.hid (by rw [hu1]; exact Fq.refl.drew)
  have hc4 := hI.cap4
  have hc42 := hI.cap42
  have hf4 := hI.few4
  have HS : Hid (∀ wz, OpI wz wI B s hp hs hk SA sn sc xs kA kn kc ks hx nm A1 n1 c1 A2 n2 c2 A3 n3 c3 A4 n4 c4 l4 OA on oc os PA pn pc → wz.cell? ⟨hp, 0, none⟩ = some (.pointer (some ⟨s, 0, none⟩)) ∧ wz.cell? ⟨hx, 4, none⟩ = some (.slice A4 n4 c4)) := Lib.hid fun wz h => ⟨h.arg.bp.cell 0, h.bx.cell 4⟩
  clear hI
  refine wp_region_noPanic ?_
  refine wp_region_H (S := fun wz => wz.cell? ⟨hp, 0, none⟩ = some (.pointer (some ⟨s, 0, none⟩)) ∧ wz.cell? ⟨hx, 4, none⟩ = some (.slice A4 n4 c4)) (by kernel_rfl) ?_
  rw [← hu1]
  clear hu1
  refine wpAnyH_val (i := 0) (v := .pointer (some ⟨hx, 4, none⟩)) (d := some 130) rfl rfl (by kernel_rfl) (by kernel_rfl) (by kernel_rfl) (fun _ _ _ h => h) (Or.inl ⟨by rfl, fun w hS => by (obtain ⟨h0, h1⟩ := hS; go_simp)⟩) (HS.out _ HC1.out) ?_
  (try simp only [Act.put, List.setIfInBounds_toArray, List.set_cons_zero, List.set_cons_succ])
  refine wpAnyH_val (i := 1) (v := .slice A4 n4 c4) (d := some 131) rfl rfl (by kernel_rfl) (by kernel_rfl) (by kernel_rfl) (fun _ _ _ h => h) (Or.inl ⟨by rfl, fun w hS => by (obtain ⟨h0, h1⟩ := hS; go_simp)⟩) (HS.out _ HC1.out) ?_
  (try simp only [Act.put, List.setIfInBounds_toArray, List.set_cons_zero, List.set_cons_succ])
  refine wpAnyH_val (i := 2) (v := .pointer (some ⟨s, 0, none⟩)) (d := some 132) rfl rfl (by kernel_rfl) (by kernel_rfl) (by kernel_rfl) (fun _ _ _ h => h) (Or.inl ⟨by rfl, fun w hS => by (obtain ⟨h0, h1⟩ := hS; go_simp)⟩) (HS.out _ HC1.out) ?_
  (try simp only [Act.put, List.setIfInBounds_toArray, List.set_cons_zero, List.set_cons_succ])
  refine wpAnyH_val (i := 3) (v := .pointer (some ⟨hx, 4, none⟩)) (d := some 133) rfl rfl (by kernel_rfl) (by kernel_rfl) (by kernel_rfl) (fun _ _ _ h => h) (Or.inl ⟨by rfl, fun w hS => by (obtain ⟨h0, h1⟩ := hS; go_simp)⟩) (HS.out _ HC1.out) ?_
  (try simp only [Act.put, List.setIfInBounds_toArray, List.set_cons_zero, List.set_cons_succ])
  refine wpAnyH_val (i := 4) (v := .slice A4 n4 c4) (d := some 134) rfl rfl (by kernel_rfl) (by kernel_rfl) (by kernel_rfl) (fun _ _ _ h => h) (Or.inl ⟨by rfl, fun w hS => by (obtain ⟨h0, h1⟩ := hS; go_simp)⟩) (HS.out _ HC1.out) ?_
  (try simp only [Act.put, List.setIfInBounds_toArray, List.set_cons_zero, List.set_cons_succ])
  refine wpAnyH_val (i := 5) (v := .int .i64 (n4 : Int)) (d := some 135) rfl rfl (by kernel_rfl) (by kernel_rfl) (by kernel_rfl) (fun _ _ _ h => h) (Or.inl ⟨by rfl, fun w hS => by (obtain ⟨h0, h1⟩ := hS; go_simp)⟩) (HS.out _ HC1.out) ?_
  (try simp only [Act.put, List.setIfInBounds_toArray, List.set_cons_zero, List.set_cons_succ])
  refine wpAnyH_oneW (i := 6) rfl (by kernel_rfl) (by rfl) ?_
  go_simp
  go_at_call 98
  (with_reducible refine (HNX.out s B n4 _ HC1.out.arg.st hB (by omega) (by omega)).mono ?_)
  rintro e u2 ⟨p, rfl, hp0, hp1, hst2, hg2⟩
  obtain ⟨p, rfl⟩ : ∃ N : Nat, p = N := ⟨p.toNat, by omega⟩
  have HQ2 : Hid (Fq [s] u1 u2) := Lib.hid (Fq.refl.grown hg2 fun g hg => .inl (by injection hg with hg; simp [hg]))
  have HC2 : Hid (OpI u2 wI B s hp hs hk SA sn sc xs kA kn kc ks hx nm A1 n1 c1 A2 n2 c2 A3 n3 c3 A4 n4 c4 l4 OA on oc os PA pn pc) := Lib.hid (HC1.out.next hst2 HQ2.out)
  clear hst2 hg2
  refine And.intro (HS.out _ HC2.out) ?_
  (try simp only [Act.put, List.setIfInBounds_toArray, List.set_cons_zero, List.set_cons_succ])
  have hpn : p < n4 := by omega
  obtain ⟨x, hx_⟩ : ∃ x, l4[p]? = some x := ⟨_, List.getElem?_eq_getElem (by have := HC2.out.w4.1; simp at this; omega)⟩
  obtain ⟨sb, so, rfl, hsb, hsc⟩ := HC2.out.w4.rd.at1 hpn (u := .int .i64 x) (by rw [List.getElem?_map, hx_]; rfl)
  have hxin := HC2.out.i4 x (List.mem_of_getElem? hx_)
  obtain ⟨x, rfl⟩ : ∃ N : Nat, x = N := ⟨x.toNat, by omega⟩
  have hsc2 : u2.cell? ⟨sb, so + p, none⟩ = some (.int .i64 x) := hsc
  clear hx_ hsb hsc
  refine wpAnyH_oneW (i := 7) rfl (by kernel_rfl) (by rfl) ?_
  go_simp
  refine And.intro (HS.out _ HC2.out) ?_
  (try simp only [Act.put, List.setIfInBounds_toArray, List.set_cons_zero, List.set_cons_succ])
  refine wpAnyH_oneW (i := 8) rfl (by kernel_rfl) (by rfl) ?_
  go_simp
  refine And.intro (HS.out _ HC2.out) ?_
  (try simp only [Act.put, List.setIfInBounds_toArray, List.set_cons_zero, List.set_cons_succ])
  refine wpAnyH_oneW (i := 9) rfl (by kernel_rfl) (by rfl) ?_
  go_simp
  refine And.intro (HS.out _ HC2.out) ?_
  (try simp only [Act.put, List.setIfInBounds_toArray, List.set_cons_zero, List.set_cons_succ])
  refine wpAnyH_done (by kernel_rfl) ?_ _
  refine NoPanic.normal ?_
  exact hN _ _ _ _ _ _ _ _ _ x _ (Lib.hid ⟨by omega, HC2.out, HQ1.out.trans HQ2.out (SubF.refl _ _)⟩)
noncomputable def syR26 : Code := (Try.f198.body.bind (rgnN 26)).getD .skip
set_option maxHeartbeats 8000000 in
theorem sy26_any {x0 x1 x2 x5 x6 x8 x9 x13 x14 x15 x16 x17 x18 x19 x20 x21 x22 x23 x24 x25 x26 x27 x28 x29 x30 x31 x32 x33 x34 x35 x36 x37 x38 x39 x40 x41 x42 x43 x44 x45 x46 x47 x48 x49 x50 x51 x52 x53 x54 x55 x56 x57 x58 x59 x60 x61 x62 x63 x64 x65 x66 x67 x68 x69 x70 x71 x72 x73 x74 x75 x76 x77 x78 x79 x80 x81 x82 x83 x84 x85 x86 x87 x88 x89 x90 x91 x92 x93 x94 x95 x96 x97 x98 x99 x100 x101 x102 x103 x104 x105 x106 x107 x108 x109 x110 x111 x112 x113 x114 x115 x116 x117 x118 x119 x120 x121 x122 x123 x124 x125 x126 x127 x128 x129 x130 x131 x132 x133 x134 x135 x136 x137 x138 x139 x140 x141 x142 x143 x144 x145 x146 x147 x148 x149 x150 x151 x152 x153 x154 x155 x156 x157 x158 x159 x160 x161 x162 x163 x164 x165 x166 x167 x168 x169 x170 x171 x172 x173 x174 x175 x176 x177 x178 x179 x180 x181 x182 x183 x184 x185 x186 : Value} {Q : Exit → Act → World → Prop} {wI w0 : World} {B s hp hs hk hx ho sn sc kn kc n1 c1 n2 c2 n3 c3 n4 c4 on oc pn pc : Nat} {SA kA A1 A2 A3 A4 OA PA : Option Addr} {xs l4 : List Int} {ks : List Kd} {nm : ByteArray} {os : List Value} {d t0 t1 : Int} {a0 : Bool} {a1 a2 a3 : Int} {b0 : Bool} {b1 b2 b3 : Int}
    (hI : OpI w0 wI B s hp hs hk SA sn sc xs kA kn kc ks hx nm A1 n1 c1 A2 n2 c2 A3 n3 c3 A4 n4 c4 l4 OA on oc os PA pn pc) (hB : B ≤ s) {x : Nat} (hx_ : x < kn) (ho_ : Bk w0 ho 344 #[.int .i64 d, .int .i64 t0, .int .i64 t1, .bool a0, .int .i64 a1, .int .i64 a2, .int .i64 a3, .bool b0, .int .i64 b1, .int .i64 b2, .int .i64 b3]) (hoI : wI.heap.size ≤ ho) (hBI : B ≤ wI.heap.size) (hno : (Value.slice OA on oc).ownBlock ≠ some ho)
    (hN : ∀ (y139 y140 y141 y142 y143 y144 y145 y146 y147 y148 y149 : Value) (u0 u1 : Int) (w' : World), Hid (OpI w' wI B s hp hs hk SA sn sc xs kA kn kc ks hx nm A1 n1 c1 A2 n2 c2 A3 n3 c3 A4 n4 c4 l4 OA on oc os PA pn pc ∧ Bk w' ho 344 #[.int .i64 d, .int .i64 u0, .int .i64 u1, .bool a0, .int .i64 a1, .int .i64 a2, .int .i64 a3, .bool b0, .int .i64 b1, .int .i64 b2, .int .i64 b3] ∧ Fq [s] wI w') → Q .normal ⟨#[x0, x1, x2, .pointer (some ⟨hk, 0, none⟩), .pointer (some ⟨hp, 0, none⟩), x5, x6, .pointer (some ⟨hx, 0, none⟩), x8, x9, .func (.func 237) #[] #[.pointer (some ⟨hp, 0, none⟩), .pointer (some ⟨hs, 0, none⟩), .pointer (some ⟨hk, 0, none⟩)], .pointer (some ⟨ho, 0, none⟩), .int .i64 (x : Int), x13, x14, x15, x16, x17, x18, x19, x20, x21, x22, x23, x24, x25, x26, x27, x28, x29, x30, x31, x32, x33, x34, x35, x36, x37, x38, x39, x40, x41, x42, x43, x44, x45, x46, x47, x48, x49, x50, x51, x52, x53, x54, x55, x56, x57, x58, x59, x60, x61, x62, x63, x64, x65, x66, x67, x68, x69, x70, x71, x72, x73, x74, x75, x76, x77, x78, x79, x80, x81, x82, x83, x84, x85, x86, x87, x88, x89, x90, x91, x92, x93, x94, x95, x96, x97, x98, x99, x100, x101, x102, x103, x104, x105, x106, x107, x108, x109, x110, x111, x112, x113, x114, x115, x116, x117, x118, x119, x120, x121, x122, x123, x124, x125, x126, x127, x128, x129, x130, x131, x132, x133, x134, x135, x136, x137, x138, y139, y140, y141, y142, y143, y144, y145, y146, y147, y148, y149, x150, x151, x152, x153, x154, x155, x156, x157, x158, x159, x160, x161, x162, x163, x164, x165, x166, x167, x168, x169, x170, x171, x172, x173, x174, x175, x176, x177, x178, x179, x180, x181, x182, x183, x184, x185, x186], []⟩ w') :
    Code.wp Try.prog syR26 Q ⟨#[x0, x1, x2, .pointer (some ⟨hk, 0, none⟩), .pointer (some ⟨hp, 0, none⟩), x5, x6, .pointer (some ⟨hx, 0, none⟩), x8, x9, .func (.func 237) #[] #[.pointer (some ⟨hp, 0, none⟩), .pointer (some ⟨hs, 0, none⟩), .pointer (some ⟨hk, 0, none⟩)], .pointer (some ⟨ho, 0, none⟩), .int .i64 (x : Int), x13, x14, x15, x16, x17, x18, x19, x20, x21, x22, x23, x24, x25, x26, x27, x28, x29, x30, x31, x32, x33, x34, x35, x36, x37, x38, x39, x40, x41, x42, x43, x44, x45, x46, x47, x48, x49, x50, x51, x52, x53, x54, x55, x56, x57, x58, x59, x60, x61, x62, x63, x64, x65, x66, x67, x68, x69, x70, x71, x72, x73, x74, x75, x76, x77, x78, x79, x80, x81, x82, x83, x84, x85, x86, x87, x88, x89, x90, x91, x92, x93, x94, x95, x96, x97, x98, x99, x100, x101, x102, x103, x104, x105, x106, x107, x108, x109, x110, x111, x112, x113, x114, x115, x116, x117, x118, x119, x120, x121, x122, x123, x124, x125, x126, x127, x128, x129, x130, x131, x132, x133, x134, x135, x136, x137, x138, x139, x140, x141, x142, x143, x144, x145, x146, x147, x148, x149, x150, x151, x152, x153, x154, x155, x156, x157, x158, x159, x160, x161, x162, x163, x164, x165, x166, x167, x168, x169, x170, x171, x172, x173, x174, x175, x176, x177, x178, x179, x180, x181, x182, x183, x184, x185, x186], []⟩ w0 := by
  conv => arg 2; whnf
  have HNX := Lib.hid next_any
  have HI := Lib.hid hI
  obtain ⟨k, hk_⟩ : ∃ k, ks[x]? = some k := ⟨_, List.getElem?_eq_getElem (by have := hI.arg.kd.len; omega)⟩
  obtain ⟨kb, ko, rfl, hkbl, q0, q1⟩ := hI.arg.kd.rd.rd.kd hx_ hk_
  have hkf := hI.arg.fd k (List.mem_of_getElem? hk_)
  have hkko := hI.arg.kd.ok k (List.mem_of_getElem? hk_)
  have hkc1 := hkko.cap
  have hkc2 := hkko.cap2
  have hkn1 := hI.arg.kd.cap
  have hkn2 := hI.arg.kd.cap2
  have hxz : (x : Int) < kn := by omega
  have hxz0 : (0 : Int) ≤ x := by omega
  have HKV : Hid (∀ wz, OpI wz wI B s hp hs hk SA sn sc xs (some ⟨kb, ko, none⟩) kn kc ks hx nm A1 n1 c1 A2 n2 c2 A3 n3 c3 A4 n4 c4 l4 OA on oc os PA pn pc → wz.cell? ⟨hp, 0, none⟩ = some (.pointer (some ⟨s, 0, none⟩)) ∧ wz.cell? ⟨hk, 0, none⟩ = some (.slice (some ⟨kb, ko, none⟩) kn kc) ∧ wz.cell? ⟨kb, ko + x * 2 + 1, none⟩ = some (.slice k.A k.n k.c)) := Lib.hid fun wz h => by
    obtain ⟨b', o', hA, _, _, q1'⟩ := h.arg.kd.rd.rd.kd hx_ hk_
    injection hA with hA
    injection hA with h1 h2
    subst h1; subst h2
    exact ⟨h.arg.bp.cell 0, h.arg.bk.cell 0, q1'⟩
  clear hk_ hkko hkbl q0 q1 hI
  generalize k.A = fA at *
  generalize k.n = fn at *
  generalize k.c = fc at *
  have hosn : ho ≠ s := by
    obtain ⟨cs, h1⟩ := HI.out.arg.st.bk
    exact ho_.ne_ h1 (by decide)
  obtain ⟨u3, hu3⟩ : ∃ z, z = w0.drew := ⟨_, rfl⟩
  have HC3 : Hid (OpI u3 wI B s hp hs hk SA sn sc xs (some ⟨kb, ko, none⟩) kn kc ks hx nm A1 n1 c1 A2 n2 c2 A3 n3 c3 A4 n4 c4 l4 OA on oc os PA pn pc) := Lib.hid (by rw [hu3]; exact HI.out.drew_ hB)
  have HO3 : Hid (Bk u3 ho 344 #[.int .i64 d, .int .i64 t0, .int .i64 t1, .bool a0, .int .i64 a1, .int .i64 a2, .int .i64 a3, .bool b0, .int .i64 b1, .int .i64 b2, .int .i64 b3]) := Lib.hid (by rw [hu3]; exact ho_.drew)
  have HBO : Hid (B ≤ ho) := Lib.hid (Nat.le_trans hBI hoI)
  clear HI ho_
  refine wp_region_noPanic ?_
  refine wp_region_L (late := [11]) (S := fun wz => wz.cell? ⟨hp, 0, none⟩ = some (.pointer (some ⟨s, 0, none⟩)) ∧ wz.cell? ⟨hk, 0, none⟩ = some (.slice (some ⟨kb, ko, none⟩) kn kc) ∧ wz.cell? ⟨kb, ko + x * 2 + 1, none⟩ = some (.slice fA fn fc)) (by kernel_rfl) ?_
  rw [← hu3]
  clear hu3
  refine wpAnyL_val (i := 0) (v := .int .i64 (x : Int)) (d := some 139) rfl rfl (by kernel_rfl) (by kernel_rfl) (by kernel_rfl) (by kernel_rfl) (fun _ _ _ h => h) (Or.inl ⟨by rfl, fun w hS => by (obtain ⟨h0, h1, h2⟩ := hS; go_simp)⟩) (HKV.out _ HC3.out) ?_
  (try simp only [Act.put, List.setIfInBounds_toArray, List.set_cons_zero, List.set_cons_succ])
  refine wpAnyL_val (i := 1) (v := .pointer (some ⟨s, 0, none⟩)) (d := some 140) rfl rfl (by kernel_rfl) (by kernel_rfl) (by kernel_rfl) (by kernel_rfl) (fun _ _ _ h => h) (Or.inl ⟨by rfl, fun w hS => by (obtain ⟨h0, h1, h2⟩ := hS; go_simp)⟩) (HKV.out _ HC3.out) ?_
  (try simp only [Act.put, List.setIfInBounds_toArray, List.set_cons_zero, List.set_cons_succ])
  refine wpAnyL_val (i := 2) (v := .slice (some ⟨kb, ko, none⟩) kn kc) (d := some 141) rfl rfl (by kernel_rfl) (by kernel_rfl) (by kernel_rfl) (by kernel_rfl) (fun _ _ _ h => h) (Or.inl ⟨by rfl, fun w hS => by (obtain ⟨h0, h1, h2⟩ := hS; go_simp)⟩) (HKV.out _ HC3.out) ?_
  (try simp only [Act.put, List.setIfInBounds_toArray, List.set_cons_zero, List.set_cons_succ])
  refine wpAnyL_val (i := 3) (v := .int .i64 (x : Int)) (d := some 142) rfl rfl (by kernel_rfl) (by kernel_rfl) (by kernel_rfl) (by kernel_rfl) (fun _ _ _ h => h) (Or.inl ⟨by rfl, fun w hS => by (obtain ⟨h0, h1, h2⟩ := hS; go_simp)⟩) (HKV.out _ HC3.out) ?_
  (try simp only [Act.put, List.setIfInBounds_toArray, List.set_cons_zero, List.set_cons_succ])
  refine wpAnyL_val (i := 4) (v := .pointer (some ⟨kb, ko + x * 2, none⟩)) (d := some 143) rfl rfl (by kernel_rfl) (by kernel_rfl) (by kernel_rfl) (by kernel_rfl) (fun _ _ _ h => h) (Or.inl ⟨by rfl, fun w hS => by (obtain ⟨h0, h1, h2⟩ := hS; go_simp)⟩) (HKV.out _ HC3.out) ?_
  (try simp only [Act.put, List.setIfInBounds_toArray, List.set_cons_zero, List.set_cons_succ])
  refine wpAnyL_val (i := 5) (v := .pointer (some ⟨kb, ko + x * 2 + 1, none⟩)) (d := some 144) rfl rfl (by kernel_rfl) (by kernel_rfl) (by kernel_rfl) (by kernel_rfl) (fun _ _ _ h => h) (Or.inl ⟨by rfl, fun w hS => by (obtain ⟨h0, h1, h2⟩ := hS; go_simp)⟩) (HKV.out _ HC3.out) ?_
  (try simp only [Act.put, List.setIfInBounds_toArray, List.set_cons_zero, List.set_cons_succ])
  refine wpAnyL_val (i := 6) (v := .slice fA fn fc) (d := some 145) rfl rfl (by kernel_rfl) (by kernel_rfl) (by kernel_rfl) (by kernel_rfl) (fun _ _ _ h => h) (Or.inl ⟨by rfl, fun w hS => by (obtain ⟨h0, h1, h2⟩ := hS; go_simp)⟩) (HKV.out _ HC3.out) ?_
  (try simp only [Act.put, List.setIfInBounds_toArray, List.set_cons_zero, List.set_cons_succ])
  refine wpAnyL_val (i := 7) (v := .int .i64 (fn : Int)) (d := some 146) rfl rfl (by kernel_rfl) (by kernel_rfl) (by kernel_rfl) (by kernel_rfl) (fun _ _ _ h => h) (Or.inl ⟨by rfl, fun w hS => by (obtain ⟨h0, h1, h2⟩ := hS; go_simp)⟩) (HKV.out _ HC3.out) ?_
  (try simp only [Act.put, List.setIfInBounds_toArray, List.set_cons_zero, List.set_cons_succ])
  refine wpAnyL_one (i := 8) rfl (by kernel_rfl) (by rfl) ?_
  go_simp
  go_at_call 98
  (with_reducible refine (HNX.out s B fn _ HC3.out.arg.st hB (by omega) (by omega)).mono ?_)
  rintro e u4 ⟨y, rfl, hy0, hy1, hst4, hg4⟩
  have HQ4 : Hid (Fq [s] u3 u4) := Lib.hid (Fq.refl.grown hg4 fun g hg => .inl (by injection hg with hg; simp [hg]))
  have HC4 : Hid (OpI u4 wI B s hp hs hk SA sn sc xs (some ⟨kb, ko, none⟩) kn kc ks hx nm A1 n1 c1 A2 n2 c2 A3 n3 c3 A4 n4 c4 l4 OA on oc os PA pn pc) := Lib.hid (HC3.out.next hst4 HQ4.out)
  have hO4 : Bk u4 ho 344 #[.int .i64 d, .int .i64 t0, .int .i64 t1, .bool a0, .int .i64 a1, .int .i64 a2, .int .i64 a3, .bool b0, .int .i64 b1, .int .i64 b2, .int .i64 b3] := HO3.out.grown hg4 (fun e => by injection e with e; omega)
  clear hst4 hg4
  refine And.intro (HKV.out _ HC4.out) ?_
  (try simp only [Act.put, List.setIfInBounds_toArray, List.set_cons_zero, List.set_cons_succ])
  refine wpAnyL_val (i := 9) (v := .agg #[.int .i64 (x : Int), .int .i64 y]) (d := some 148) rfl rfl (by kernel_rfl) (by kernel_rfl) (by kernel_rfl) (by kernel_rfl) (fun _ _ _ h => h) (Or.inl ⟨by rfl, fun w hS => by (obtain ⟨h0, h1, h2⟩ := hS; go_simp)⟩) (HKV.out _ HC4.out) ?_
  (try simp only [Act.put, List.setIfInBounds_toArray, List.set_cons_zero, List.set_cons_succ])
  refine wpAnyL_val (i := 10) (v := .pointer (some ⟨ho, 1, none⟩)) (d := some 149) rfl rfl (by kernel_rfl) (by kernel_rfl) (by kernel_rfl) (by kernel_rfl) (fun _ _ _ h => h) (Or.inl ⟨by rfl, fun w hS => by (obtain ⟨h0, h1, h2⟩ := hS; go_simp)⟩) (HKV.out _ HC4.out) ?_
  (try simp only [Act.put, List.setIfInBounds_toArray, List.set_cons_zero, List.set_cons_succ])
  have z1 : u4.cell? ⟨ho, 1, none⟩ = some (.int .i64 t0) := hO4.cell 1
  have z2 : u4.cell? ⟨ho, 2, none⟩ = some (.int .i64 t1) := hO4.cell 2
  have y1 := hO4.frozen 1
  have y2 := hO4.frozen 2
  have HF : Hid (OpI ((u4.setCell ⟨ho, 1, none⟩ (.int .i64 (x : Int))).setCell ⟨ho, 2, none⟩ (.int .i64 y)) wI B s hp hs hk SA sn sc xs (some ⟨kb, ko, none⟩) kn kc ks hx nm A1 n1 c1 A2 n2 c2 A3 n3 c3 A4 n4 c4 l4 OA on oc os PA pn pc ∧ Bk ((u4.setCell ⟨ho, 1, none⟩ (.int .i64 (x : Int))).setCell ⟨ho, 2, none⟩ (.int .i64 y)) ho 344 #[.int .i64 d, .int .i64 (x : Int), .int .i64 y, .bool a0, .int .i64 a1, .int .i64 a2, .int .i64 a3, .bool b0, .int .i64 b1, .int .i64 b2, .int .i64 b3] ∧ Fq [s] wI ((u4.setCell ⟨ho, 1, none⟩ (.int .i64 (x : Int))).setCell ⟨ho, 2, none⟩ (.int .i64 y))) := Lib.hid (by
    have h := HC4.out.op hB hO4 hoI ((Kx.refl.set hO4 HBO.out (by simp) 1 (.int .i64 (x : Int))).set (hO4.set_ 1 _) HBO.out (by simp) 2 (.int .i64 y)) ((HC4.out.fq.set (.inr hoI) 1 _).set (.inr hoI) 2 _) (own_farB (own_farB HC4.out.ops hno) hno)
    exact ⟨h, by simpa using (hO4.set_ 1 (.int .i64 (x : Int))).set_ 2 (.int .i64 y), h.fq⟩)
  clear hO4
  refine wpAnyL_late (i := 11) rfl (by kernel_rfl) (by rfl) (by kernel_rfl) ?_
  go_simp
  (try simp only [Act.put, List.setIfInBounds_toArray, List.set_cons_zero, List.set_cons_succ])
  refine wpAnyL_done (by kernel_rfl) ?_ _
  refine NoPanic.normal ?_
  exact hN _ _ _ _ _ _ _ _ _ _ _ _ _ _ HF
noncomputable def syR23 : Code := (Try.f198.body.bind (rgnN 23)).getD .skip
set_option maxHeartbeats 8000000 in
theorem sy23_any {x0 x1 x2 x5 x6 x8 x9 x12 x13 x14 x15 x16 x17 x18 x19 x20 x21 x22 x23 x24 x25 x26 x27 x28 x29 x30 x31 x32 x33 x34 x35 x36 x37 x38 x39 x40 x41 x42 x43 x44 x45 x46 x47 x48 x49 x50 x51 x52 x53 x54 x55 x56 x57 x58 x59 x60 x61 x62 x63 x64 x65 x66 x67 x68 x69 x70 x71 x72 x73 x74 x75 x76 x77 x78 x79 x80 x81 x82 x83 x84 x85 x86 x87 x88 x89 x90 x91 x92 x93 x94 x95 x96 x97 x98 x99 x100 x101 x102 x103 x104 x105 x106 x107 x108 x109 x110 x111 x112 x113 x114 x115 x116 x117 x118 x119 x120 x121 x122 x123 x124 x125 x126 x127 x128 x129 x130 x131 x132 x133 x134 x135 x136 x137 x138 x139 x140 x141 x142 x143 x144 x145 x146 x147 x148 x149 x150 x151 x152 x153 x154 x155 x156 x157 x158 x159 x160 x161 x162 x163 x164 x165 x166 x167 x168 x169 x170 x171 x172 x173 x174 x175 x176 x177 x178 x179 x180 x181 x182 x183 x184 x185 x186 : Value} {Q : Exit → Act → World → Prop} {wI w0 : World} {B s hp hs hk hx ho sn sc kn kc n1 c1 n2 c2 n3 c3 n4 c4 on oc pn pc : Nat} {SA kA A1 A2 A3 A4 OA PA : Option Addr} {xs l4 : List Int} {ks : List Kd} {nm : ByteArray} {os : List Value} {d t0 t1 : Int} {a0 : Bool} {a1 a2 a3 : Int} {b0 : Bool} {b1 b2 b3 : Int}
    (hI : OpI w0 wI B s hp hs hk SA sn sc xs kA kn kc ks hx nm A1 n1 c1 A2 n2 c2 A3 n3 c3 A4 n4 c4 l4 OA on oc os PA pn pc) (hB : B ≤ s) (ho_ : Bk w0 ho 344 #[.int .i64 d, .int .i64 t0, .int .i64 t1, .bool a0, .int .i64 a1, .int .i64 a2, .int .i64 a3, .bool b0, .int .i64 b1, .int .i64 b2, .int .i64 b3]) (hoI : wI.heap.size ≤ ho) (hBI : B ≤ wI.heap.size) (hno : (Value.slice OA on oc).ownBlock ≠ some ho)
    (hN : ∀ (y121 y122 y123 y124 y125 : Value) (e0 : Bool) (e1 e2 e3 : Int) (w' : World), Hid (OpI w' wI B s hp hs hk SA sn sc xs kA kn kc ks hx nm A1 n1 c1 A2 n2 c2 A3 n3 c3 A4 n4 c4 l4 OA on oc os PA pn pc ∧ Bk w' ho 344 #[.int .i64 12, .int .i64 0, .int .i64 0, .bool a0, .int .i64 a1, .int .i64 a2, .int .i64 a3, .bool e0, .int .i64 e1, .int .i64 e2, .int .i64 e3] ∧ Fq [s] wI w') → Q .normal ⟨#[x0, x1, x2, .pointer (some ⟨hk, 0, none⟩), .pointer (some ⟨hp, 0, none⟩), x5, x6, .pointer (some ⟨hx, 0, none⟩), x8, x9, .func (.func 237) #[] #[.pointer (some ⟨hp, 0, none⟩), .pointer (some ⟨hs, 0, none⟩), .pointer (some ⟨hk, 0, none⟩)], .pointer (some ⟨ho, 0, none⟩), x12, x13, x14, x15, x16, x17, x18, x19, x20, x21, x22, x23, x24, x25, x26, x27, x28, x29, x30, x31, x32, x33, x34, x35, x36, x37, x38, x39, x40, x41, x42, x43, x44, x45, x46, x47, x48, x49, x50, x51, x52, x53, x54, x55, x56, x57, x58, x59, x60, x61, x62, x63, x64, x65, x66, x67, x68, x69, x70, x71, x72, x73, x74, x75, x76, x77, x78, x79, x80, x81, x82, x83, x84, x85, x86, x87, x88, x89, x90, x91, x92, x93, x94, x95, x96, x97, x98, x99, x100, x101, x102, x103, x104, x105, x106, x107, x108, x109, x110, x111, x112, x113, x114, x115, x116, x117, x118, x119, x120, y121, y122, y123, y124, y125, x126, x127, x128, x129, x130, x131, x132, x133, x134, x135, x136, x137, x138, x139, x140, x141, x142, x143, x144, x145, x146, x147, x148, x149, x150, x151, x152, x153, x154, x155, x156, x157, x158, x159, x160, x161, x162, x163, x164, x165, x166, x167, x168, x169, x170, x171, x172, x173, x174, x175, x176, x177, x178, x179, x180, x181, x182, x183, x184, x185, x186], []⟩ w') :
    Code.wp Try.prog syR23 Q ⟨#[x0, x1, x2, .pointer (some ⟨hk, 0, none⟩), .pointer (some ⟨hp, 0, none⟩), x5, x6, .pointer (some ⟨hx, 0, none⟩), x8, x9, .func (.func 237) #[] #[.pointer (some ⟨hp, 0, none⟩), .pointer (some ⟨hs, 0, none⟩), .pointer (some ⟨hk, 0, none⟩)], .pointer (some ⟨ho, 0, none⟩), x12, x13, x14, x15, x16, x17, x18, x19, x20, x21, x22, x23, x24, x25, x26, x27, x28, x29, x30, x31, x32, x33, x34, x35, x36, x37, x38, x39, x40, x41, x42, x43, x44, x45, x46, x47, x48, x49, x50, x51, x52, x53, x54, x55, x56, x57, x58, x59, x60, x61, x62, x63, x64, x65, x66, x67, x68, x69, x70, x71, x72, x73, x74, x75, x76, x77, x78, x79, x80, x81, x82, x83, x84, x85, x86, x87, x88, x89, x90, x91, x92, x93, x94, x95, x96, x97, x98, x99, x100, x101, x102, x103, x104, x105, x106, x107, x108, x109, x110, x111, x112, x113, x114, x115, x116, x117, x118, x119, x120, x121, x122, x123, x124, x125, x126, x127, x128, x129, x130, x131, x132, x133, x134, x135, x136, x137, x138, x139, x140, x141, x142, x143, x144, x145, x146, x147, x148, x149, x150, x151, x152, x153, x154, x155, x156, x157, x158, x159, x160, x161, x162, x163, x164, x165, x166, x167, x168, x169, x170, x171, x172, x173, x174, x175, x176, x177, x178, x179, x180, x181, x182, x183, x184, x185, x186], []⟩ w0 := by
  conv => arg 2; whnf
  have HI := Lib.hid hI
  have HS : Hid (∀ wz, Bk wz ho 344 #[.int .i64 d, .int .i64 t0, .int .i64 t1, .bool a0, .int .i64 a1, .int .i64 a2, .int .i64 a3, .bool b0, .int .i64 b1, .int .i64 b2, .int .i64 b3] → wz.cell? ⟨ho, 3, none⟩ = some (.bool a0) ∧ wz.cell? ⟨ho, 4, none⟩ = some (.int .i64 a1) ∧ wz.cell? ⟨ho, 5, none⟩ = some (.int .i64 a2) ∧ wz.cell? ⟨ho, 6, none⟩ = some (.int .i64 a3)) := Lib.hid fun wz h => ⟨h.cell 3, h.cell 4, h.cell 5, h.cell 6⟩
  have HBO : Hid (B ≤ ho) := Lib.hid (Nat.le_trans hBI hoI)
  obtain ⟨u1, hu1⟩ : ∃ z, z = w0.drew := ⟨_, rfl⟩
  have HC1 : Hid (OpI u1 wI B s hp hs hk SA sn sc xs kA kn kc ks hx nm A1 n1 c1 A2 n2 c2 A3 n3 c3 A4 n4 c4 l4 OA on oc os PA pn pc) := Lib.hid (by rw [hu1]; exact HI.out.drew_ hB)
  have HO1 : Hid (Bk u1 ho 344 #[.int .i64 d, .int .i64 t0, .int .i64 t1, .bool a0, .int .i64 a1, .int .i64 a2, .int .i64 a3, .bool b0, .int .i64 b1, .int .i64 b2, .int .i64 b3]) := Lib.hid (by rw [hu1]; exact ho_.drew)
  have HE : Hid (∀ args w, (callFunc 237 args).run Try.prog w = .ok (.enter 237 args) w) := Lib.hid (fun _ _ => by kernel_rfl)
  clear hI ho_ HI
  refine wp_region_noPanic ?_
  refine wp_region_L (late := [5]) (S := fun wz => wz.cell? ⟨ho, 3, none⟩ = some (.bool a0) ∧ wz.cell? ⟨ho, 4, none⟩ = some (.int .i64 a1) ∧ wz.cell? ⟨ho, 5, none⟩ = some (.int .i64 a2) ∧ wz.cell? ⟨ho, 6, none⟩ = some (.int .i64 a3)) (by kernel_rfl) ?_
  rw [← hu1]
  clear hu1
  refine wpAnyL_val (i := 0) (v := .pointer (some ⟨ho, 3, none⟩)) (d := some 121) rfl rfl (by kernel_rfl) (by kernel_rfl) (by kernel_rfl) (by kernel_rfl) (fun _ _ _ h => h) (Or.inl ⟨by rfl, fun w hS => by (obtain ⟨h0, h1, h2, h3⟩ := hS; go_simp)⟩) (HS.out _ HO1.out) ?_
  (try simp only [Act.put, List.setIfInBounds_toArray, List.set_cons_zero, List.set_cons_succ])
  refine wpAnyL_val (i := 1) (v := .agg #[.bool a0, .int .i64 a1, .int .i64 a2, .int .i64 a3]) (d := some 122) rfl rfl (by kernel_rfl) (by kernel_rfl) (by kernel_rfl) (by kernel_rfl) (fun _ _ _ h => h) (Or.inl ⟨by rfl, fun w hS => by (obtain ⟨h0, h1, h2, h3⟩ := hS; go_simp)⟩) (HS.out _ HO1.out) ?_
  (try simp only [Act.put, List.setIfInBounds_toArray, List.set_cons_zero, List.set_cons_succ])
  refine wpAnyL_val (i := 2) (v := .func (.func 237) #[] #[.pointer (some ⟨hp, 0, none⟩), .pointer (some ⟨hs, 0, none⟩), .pointer (some ⟨hk, 0, none⟩)]) (d := some 123) rfl rfl (by kernel_rfl) (by kernel_rfl) (by kernel_rfl) (by kernel_rfl) (fun _ _ _ h => h) (Or.inl ⟨by rfl, fun w hS => by (obtain ⟨h0, h1, h2, h3⟩ := hS; go_simp)⟩) (HS.out _ HO1.out) ?_
  (try simp only [Act.put, List.setIfInBounds_toArray, List.set_cons_zero, List.set_cons_succ])
  refine wpAnyL_one (i := 3) rfl (by kernel_rfl) (by rfl) ?_
  go_simp
  go_at_call 237
  (with_reducible refine (arg237_any HC1.out.arg hB).mono ?_)
  rintro e u2 ⟨e0, e1, e2, e3, rfl, hst2, hq2⟩
  have HC2 : Hid (OpI u2 wI B s hp hs hk SA sn sc xs kA kn kc ks hx nm A1 n1 c1 A2 n2 c2 A3 n3 c3 A4 n4 c4 l4 OA on oc os PA pn pc) := Lib.hid (HC1.out.next hst2 hq2)
  have HO2 : Hid (Bk u2 ho 344 #[.int .i64 d, .int .i64 t0, .int .i64 t1, .bool a0, .int .i64 a1, .int .i64 a2, .int .i64 a3, .bool b0, .int .i64 b1, .int .i64 b2, .int .i64 b3]) := Lib.hid ((Kx.fq (B' := 0) hq2 HC1.out.arg.st (Nat.zero_le _)).bk HO1.out (by decide))
  clear hst2 hq2
  refine And.intro (HS.out _ HO2.out) ?_
  (try simp only [Act.put, List.setIfInBounds_toArray, List.set_cons_zero, List.set_cons_succ])
  refine wpAnyL_val (i := 4) (v := .agg #[.int .i64 12, .int .i64 0, .int .i64 0, .bool a0, .int .i64 a1, .int .i64 a2, .int .i64 a3, .bool e0, .int .i64 e1, .int .i64 e2, .int .i64 e3]) (d := some 125) rfl rfl (by kernel_rfl) (by kernel_rfl) (by kernel_rfl) (by kernel_rfl) (fun _ _ _ h => h) (Or.inl ⟨by rfl, fun w hS => by (obtain ⟨h0, h1, h2, h3⟩ := hS; go_simp)⟩) (HS.out _ HO2.out) ?_
  (try simp only [Act.put, List.setIfInBounds_toArray, List.set_cons_zero, List.set_cons_succ])
  have z0 : u2.cell? ⟨ho, 0, none⟩ = some (.int .i64 d) := HO2.out.cell 0
  have y0 := HO2.out.frozen 0
  have z1 : u2.cell? ⟨ho, 1, none⟩ = some (.int .i64 t0) := HO2.out.cell 1
  have y1 := HO2.out.frozen 1
  have z2 : u2.cell? ⟨ho, 2, none⟩ = some (.int .i64 t1) := HO2.out.cell 2
  have y2 := HO2.out.frozen 2
  have z3 : u2.cell? ⟨ho, 3, none⟩ = some (.bool a0) := HO2.out.cell 3
  have y3 := HO2.out.frozen 3
  have z4 : u2.cell? ⟨ho, 4, none⟩ = some (.int .i64 a1) := HO2.out.cell 4
  have y4 := HO2.out.frozen 4
  have z5 : u2.cell? ⟨ho, 5, none⟩ = some (.int .i64 a2) := HO2.out.cell 5
  have y5 := HO2.out.frozen 5
  have z6 : u2.cell? ⟨ho, 6, none⟩ = some (.int .i64 a3) := HO2.out.cell 6
  have y6 := HO2.out.frozen 6
  have z7 : u2.cell? ⟨ho, 7, none⟩ = some (.bool b0) := HO2.out.cell 7
  have y7 := HO2.out.frozen 7
  have z8 : u2.cell? ⟨ho, 8, none⟩ = some (.int .i64 b1) := HO2.out.cell 8
  have y8 := HO2.out.frozen 8
  have z9 : u2.cell? ⟨ho, 9, none⟩ = some (.int .i64 b2) := HO2.out.cell 9
  have y9 := HO2.out.frozen 9
  have z10 : u2.cell? ⟨ho, 10, none⟩ = some (.int .i64 b3) := HO2.out.cell 10
  have y10 := HO2.out.frozen 10
  have HF : Hid (OpI (((((((((((u2.setCell ⟨ho, 0, none⟩ (.int .i64 12)).setCell ⟨ho, 1, none⟩ (.int .i64 0)).setCell ⟨ho, 2, none⟩ (.int .i64 0)).setCell ⟨ho, 3, none⟩ (.bool a0)).setCell ⟨ho, 4, none⟩ (.int .i64 a1)).setCell ⟨ho, 5, none⟩ (.int .i64 a2)).setCell ⟨ho, 6, none⟩ (.int .i64 a3)).setCell ⟨ho, 7, none⟩ (.bool e0)).setCell ⟨ho, 8, none⟩ (.int .i64 e1)).setCell ⟨ho, 9, none⟩ (.int .i64 e2)).setCell ⟨ho, 10, none⟩ (.int .i64 e3)) wI B s hp hs hk SA sn sc xs kA kn kc ks hx nm A1 n1 c1 A2 n2 c2 A3 n3 c3 A4 n4 c4 l4 OA on oc os PA pn pc ∧ Bk (((((((((((u2.setCell ⟨ho, 0, none⟩ (.int .i64 12)).setCell ⟨ho, 1, none⟩ (.int .i64 0)).setCell ⟨ho, 2, none⟩ (.int .i64 0)).setCell ⟨ho, 3, none⟩ (.bool a0)).setCell ⟨ho, 4, none⟩ (.int .i64 a1)).setCell ⟨ho, 5, none⟩ (.int .i64 a2)).setCell ⟨ho, 6, none⟩ (.int .i64 a3)).setCell ⟨ho, 7, none⟩ (.bool e0)).setCell ⟨ho, 8, none⟩ (.int .i64 e1)).setCell ⟨ho, 9, none⟩ (.int .i64 e2)).setCell ⟨ho, 10, none⟩ (.int .i64 e3)) ho 344 #[.int .i64 12, .int .i64 0, .int .i64 0, .bool a0, .int .i64 a1, .int .i64 a2, .int .i64 a3, .bool e0, .int .i64 e1, .int .i64 e2, .int .i64 e3] ∧ Fq [s] wI (((((((((((u2.setCell ⟨ho, 0, none⟩ (.int .i64 12)).setCell ⟨ho, 1, none⟩ (.int .i64 0)).setCell ⟨ho, 2, none⟩ (.int .i64 0)).setCell ⟨ho, 3, none⟩ (.bool a0)).setCell ⟨ho, 4, none⟩ (.int .i64 a1)).setCell ⟨ho, 5, none⟩ (.int .i64 a2)).setCell ⟨ho, 6, none⟩ (.int .i64 a3)).setCell ⟨ho, 7, none⟩ (.bool e0)).setCell ⟨ho, 8, none⟩ (.int .i64 e1)).setCell ⟨ho, 9, none⟩ (.int .i64 e2)).setCell ⟨ho, 10, none⟩ (.int .i64 e3))) := Lib.hid (by
    have h := HC2.out.op hB HO2.out hoI ((((((((((((Kx.refl (B := B) (F := [344])).set HO2.out HBO.out (by simp) 0 (.int .i64 12)).set (HO2.out.set_ 0 (.int .i64 12)) HBO.out (by simp) 1 (.int .i64 0)).set ((HO2.out.set_ 0 (.int .i64 12)).set_ 1 (.int .i64 0)) HBO.out (by simp) 2 (.int .i64 0)).set (((HO2.out.set_ 0 (.int .i64 12)).set_ 1 (.int .i64 0)).set_ 2 (.int .i64 0)) HBO.out (by simp) 3 (.bool a0)).set ((((HO2.out.set_ 0 (.int .i64 12)).set_ 1 (.int .i64 0)).set_ 2 (.int .i64 0)).set_ 3 (.bool a0)) HBO.out (by simp) 4 (.int .i64 a1)).set (((((HO2.out.set_ 0 (.int .i64 12)).set_ 1 (.int .i64 0)).set_ 2 (.int .i64 0)).set_ 3 (.bool a0)).set_ 4 (.int .i64 a1)) HBO.out (by simp) 5 (.int .i64 a2)).set ((((((HO2.out.set_ 0 (.int .i64 12)).set_ 1 (.int .i64 0)).set_ 2 (.int .i64 0)).set_ 3 (.bool a0)).set_ 4 (.int .i64 a1)).set_ 5 (.int .i64 a2)) HBO.out (by simp) 6 (.int .i64 a3)).set (((((((HO2.out.set_ 0 (.int .i64 12)).set_ 1 (.int .i64 0)).set_ 2 (.int .i64 0)).set_ 3 (.bool a0)).set_ 4 (.int .i64 a1)).set_ 5 (.int .i64 a2)).set_ 6 (.int .i64 a3)) HBO.out (by simp) 7 (.bool e0)).set ((((((((HO2.out.set_ 0 (.int .i64 12)).set_ 1 (.int .i64 0)).set_ 2 (.int .i64 0)).set_ 3 (.bool a0)).set_ 4 (.int .i64 a1)).set_ 5 (.int .i64 a2)).set_ 6 (.int .i64 a3)).set_ 7 (.bool e0)) HBO.out (by simp) 8 (.int .i64 e1)).set (((((((((HO2.out.set_ 0 (.int .i64 12)).set_ 1 (.int .i64 0)).set_ 2 (.int .i64 0)).set_ 3 (.bool a0)).set_ 4 (.int .i64 a1)).set_ 5 (.int .i64 a2)).set_ 6 (.int .i64 a3)).set_ 7 (.bool e0)).set_ 8 (.int .i64 e1)) HBO.out (by simp) 9 (.int .i64 e2)).set ((((((((((HO2.out.set_ 0 (.int .i64 12)).set_ 1 (.int .i64 0)).set_ 2 (.int .i64 0)).set_ 3 (.bool a0)).set_ 4 (.int .i64 a1)).set_ 5 (.int .i64 a2)).set_ 6 (.int .i64 a3)).set_ 7 (.bool e0)).set_ 8 (.int .i64 e1)).set_ 9 (.int .i64 e2)) HBO.out (by simp) 10 (.int .i64 e3)) (((((((((((HC2.out.fq.set (.inr hoI) 0 (.int .i64 12)).set (.inr hoI) 1 (.int .i64 0)).set (.inr hoI) 2 (.int .i64 0)).set (.inr hoI) 3 (.bool a0)).set (.inr hoI) 4 (.int .i64 a1)).set (.inr hoI) 5 (.int .i64 a2)).set (.inr hoI) 6 (.int .i64 a3)).set (.inr hoI) 7 (.bool e0)).set (.inr hoI) 8 (.int .i64 e1)).set (.inr hoI) 9 (.int .i64 e2)).set (.inr hoI) 10 (.int .i64 e3)) (own_farB (own_farB (own_farB (own_farB (own_farB (own_farB (own_farB (own_farB (own_farB (own_farB (own_farB HC2.out.ops hno) hno) hno) hno) hno) hno) hno) hno) hno) hno) hno)
    exact ⟨h, by simpa using (((((((((((HO2.out.set_ 0 (.int .i64 12)).set_ 1 (.int .i64 0)).set_ 2 (.int .i64 0)).set_ 3 (.bool a0)).set_ 4 (.int .i64 a1)).set_ 5 (.int .i64 a2)).set_ 6 (.int .i64 a3)).set_ 7 (.bool e0)).set_ 8 (.int .i64 e1)).set_ 9 (.int .i64 e2)).set_ 10 (.int .i64 e3)), h.fq⟩)
  refine wpAnyL_late (i := 5) rfl (by kernel_rfl) (by rfl) (by kernel_rfl) ?_
  go_simp
  (try simp only [Act.put, List.setIfInBounds_toArray, List.set_cons_zero, List.set_cons_succ])
  refine wpAnyL_done (by kernel_rfl) ?_ _
  refine NoPanic.normal ?_
  exact hN _ _ _ _ _ _ _ _ _ _ HF
end Go.Proofs.Ytnidcmhfbkdioaa
