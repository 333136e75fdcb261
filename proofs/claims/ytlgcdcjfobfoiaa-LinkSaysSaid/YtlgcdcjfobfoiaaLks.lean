/-
  The end of a round of the law LinkSays. Conditions: fewer than 60 rounds.
-/
import Derived.Test.YtlgcdcjfobfoiaaLkm
namespace Go.Proofs.Ytlgcdcjfobfoiaa
open Go.RowKit
set_option maxRecDepth 100000

set_option maxHeartbeats 6000000 in
theorem lsTail_any {x0 x2 x3 x4 x11 x12 x13 x14 x15 x16 x17 x18 x19 x20 x21 x22 x23 x24 x25 x26 x27 x28 x29 x30 x31 x32 x33 x34 x35 x36 x37 x38 x39 x40 x41 x42 x43 x44 x45 x46 x47 x48 x49 x50 x51 x52 x53 x54 x55 x56 x57 x58 x59 x60 x61 x62 x63 x64 x65 x66 x67 x68 x69 x70 x71 x72 x73 x74 x75 x76 x77 x78 x79 x80 x81 x82 x83 x84 x85 x86 x87 x88 x89 x90 x91 x92 x93 x94 x95 x96 x97 x98 x99 x100 x101 x102 x103 x104 x105 x106 x107 x108 x109 x110 x111 x112 x113 x114 x115 x116 x117 x118 x119 x120 x121 x122 x123 x124 x125 x126 x127 x128 x129 x130 x131 x132 x133 x134 x135 x136 x137 x138 x139 x140 x141 x142 x143 x144 x145 x146 x147 x148 x149 x150 x151 x152 x153 x154 x155 x156 x157 x158 x159 x160 x161 x162 x163 x164 x165 x166 x167 x168 x169 x170 x171 x172 x173 x174 x175 x176 x177 x178 x179 x180 x181 x182 x183 x184 x185 x186 x187 x188 x189 x190 x191 x192 x193 x194 x195 x196 x197 x198 x199 x200 x201 x202 x203 x204 x205 x206 x207 x208 x209 x210 x211 x212 x213 x214 x215 x216 x217 x218 x219 x220 x221 x222 x223 x224 x225 x226 x227 x228 x229 x230 x231 x232 x233 x234 x235 x236 : Value} {Q : Exit → Act → World → Prop} {RA : Option Addr} {rn rc be bm ba k who : Nat} {z : Int} {raw : List Nat} {w wr : World} {D : Nat → Sd} (hk60 : k < 60) (hw2 : who < 2) (HI : Hid (LsI w wr be bm ba (k + 1) D))
    (hN : ∀ (y219 y181 y182 y183 y184 y185 y186 y187 y188 y189 y190 y191 y192 y193 y194 y195 y196 y197 y198 y199 y200 y201 y202 y203 y204 y205 y206 y207 y208 y209 y210 y211 y212 y213 y214 y215 y216 y217 y218 : Value) (w' : World), (∃ D', Hid (LsI w w' be bm ba (k + 1) D')) → Q .normal ⟨#[x0, .slice RA rn rc, x2, x3, x4, .slice (some ⟨be, 0, none⟩) 2 2, .slice (some ⟨bm, 0, none⟩) 2 2, .pointer (some ⟨ba, 0, none⟩), .int .i64 k, .int .i64 z, .int .i64 who, x11, x12, x13, x14, x15, x16, x17, x18, x19, x20, x21, x22, x23, x24, x25, x26, x27, x28, x29, x30, x31, x32, x33, x34, x35, x36, x37, x38, x39, x40, x41, x42, x43, x44, x45, x46, x47, x48, x49, x50, x51, x52, x53, x54, x55, x56, x57, x58, x59, x60, x61, x62, x63, x64, x65, x66, x67, x68, x69, x70, x71, x72, x73, x74, x75, x76, x77, x78, x79, x80, x81, x82, x83, x84, x85, x86, x87, x88, x89, x90, x91, x92, x93, x94, x95, x96, x97, x98, x99, x100, x101, x102, x103, x104, x105, x106, x107, x108, x109, x110, x111, x112, x113, x114, x115, x116, x117, x118, x119, x120, x121, x122, x123, x124, x125, x126, x127, x128, x129, x130, x131, x132, x133, x134, x135, x136, x137, x138, x139, x140, x141, x142, x143, x144, x145, x146, x147, x148, x149, x150, x151, x152, x153, x154, x155, x156, x157, x158, x159, x160, x161, x162, x163, x164, x165, x166, x167, x168, x169, x170, x171, x172, x173, x174, x175, x176, x177, x178, x179, x180, y181, y182, y183, y184, y185, y186, y187, y188, y189, y190, y191, y192, y193, y194, y195, y196, y197, y198, y199, y200, y201, y202, y203, y204, y205, y206, y207, y208, y209, y210, y211, y212, y213, y214, y215, y216, y217, y218, y219, x220, x221, x222, x223, x224, x225, x226, x227, x228, x229, x230, x231, x232, x233, x234, x235, x236], []⟩ w')
    : Code.wp Try.prog lsTail Q ⟨#[x0, .slice RA rn rc, x2, x3, x4, .slice (some ⟨be, 0, none⟩) 2 2, .slice (some ⟨bm, 0, none⟩) 2 2, .pointer (some ⟨ba, 0, none⟩), .int .i64 k, .int .i64 z, .int .i64 who, x11, x12, x13, x14, x15, x16, x17, x18, x19, x20, x21, x22, x23, x24, x25, x26, x27, x28, x29, x30, x31, x32, x33, x34, x35, x36, x37, x38, x39, x40, x41, x42, x43, x44, x45, x46, x47, x48, x49, x50, x51, x52, x53, x54, x55, x56, x57, x58, x59, x60, x61, x62, x63, x64, x65, x66, x67, x68, x69, x70, x71, x72, x73, x74, x75, x76, x77, x78, x79, x80, x81, x82, x83, x84, x85, x86, x87, x88, x89, x90, x91, x92, x93, x94, x95, x96, x97, x98, x99, x100, x101, x102, x103, x104, x105, x106, x107, x108, x109, x110, x111, x112, x113, x114, x115, x116, x117, x118, x119, x120, x121, x122, x123, x124, x125, x126, x127, x128, x129, x130, x131, x132, x133, x134, x135, x136, x137, x138, x139, x140, x141, x142, x143, x144, x145, x146, x147, x148, x149, x150, x151, x152, x153, x154, x155, x156, x157, x158, x159, x160, x161, x162, x163, x164, x165, x166, x167, x168, x169, x170, x171, x172, x173, x174, x175, x176, x177, x178, x179, x180, x181, x182, x183, x184, x185, x186, x187, x188, x189, x190, x191, x192, x193, x194, x195, x196, x197, x198, x199, x200, x201, x202, x203, x204, x205, x206, x207, x208, x209, x210, x211, x212, x213, x214, x215, x216, x217, x218, x219, x220, x221, x222, x223, x224, x225, x226, x227, x228, x229, x230, x231, x232, x233, x234, x235, x236], []⟩ wr := by
  conv => arg 2; whnf
  have hwz : (who : Int) < 2 := by omega
  have hwz0 : (0 : Int) ≤ who := by omega
  obtain ⟨i5, hi5, hu0, hu1, hu2⟩ := info_parts T.info5
  obtain ⟨i30, hi30, hv0, hv1, hv2⟩ := info_parts T.info30
  have hId := HI.out.drew
  have hSd := hId.sd who hw2
  obtain ⟨gg, hgg⟩ : ∃ gg, gg = (D who).g := ⟨_, rfl⟩
  obtain ⟨hh, hhh⟩ : ∃ hh, hh = (D who).h := ⟨_, rfl⟩
  have hce := hId.cE hw2
  have hcm := hId.cM hw2
  rw [← hgg] at hce
  rw [← hhh] at hcm
  obtain ⟨Ss, Ns, SA, NA, sc, nc, hst, hSs, hNs⟩ := hSd.ha
  obtain ⟨p, hp⟩ : ∃ p, p = Ss.length := ⟨_, rfl⟩
  have hpS : p = (D who).S.length := by rw [hp, ← hSs, List.length_map]
  obtain ⟨ak, hak⟩ : ∃ ak, ak = (D who).first := ⟨_, rfl⟩
  obtain ⟨q, hq⟩ : ∃ q : Nat, q = p - ak := ⟨_, rfl⟩
  have hakp : ak ≤ p := by rw [hak, hpS]; exact hSd.fle
  have hp60 : p ≤ 61 := by have := hSd.sle; omega
  have hqz : (p : Int) - ak = q := by omega
  have hk0 : wr.drew.cell? ⟨hh, 0, none⟩ = some (.slice SA p sc) := by rw [hhh, hp]; exact hst.bk.cell 0
  have hk1 : wr.drew.cell? ⟨hh, 1, none⟩ = some (.int .i64 ak) := by rw [hhh, hak]; exact hst.bk.cell 1
  have hwt := waiting_any wr.drew hSd.en
  rw [List.length_drop, ← hpS, ← hak, ← hq, ← hgg] at hwt
  have hgb := got_both wr.drew hSd.en hSd.ha hSd.dFH (by have := hSd.gle; omega)
  rw [← hgg, ← hhh] at hgb
  have s5 : wr.drew.cell? ⟨be, who, none⟩ = some (.pointer (some ⟨gg, 0, none⟩)) ∧ wr.drew.cell? ⟨bm, who, none⟩ = some (.pointer (some ⟨hh, 0, none⟩)) ∧ wr.drew.cell? ⟨hh, 0, none⟩ = some (.slice SA p sc) ∧ wr.drew.cell? ⟨hh, 1, none⟩ = some (.int .i64 ak) := ⟨hce, hcm, hk0, hk1⟩
  have HWT := Lib.hid hwt
  have HWN : Hid (∀ n, Calls Try.prog 50 #[.pointer (some ⟨gg, 0, none⟩)] (wr.drewN n) fun e w' => e = .returned (.int .i64 q) ∧ w' = wr.drewN n) := Lib.hid fun n => by
    have h1 := waiting_any (wr.drewN n) ((HI.out.sd who hw2).en.below ⟨rfl, rfl, rfl, Nat.le_refl _, fun _ _ => rfl⟩)
    rw [List.length_drop, ← hpS, ← hak, ← hq, ← hgg] at h1
    exact h1.mono fun _ _ h => ⟨h.1, h.2.symm⟩
  have HGB := Lib.hid hgb
  have HID := Lib.hid hId
  have HGG := Lib.hid hgg
  have HHH := Lib.hid hhh
  clear hId hSd hst hSs hNs hp hpS hak hq hwt hgb hgg hhh hce hcm hk0 hk1
  have hq1 : ((q : Int) != q) = false := by simp
  have hq2 : ((q : Int) == q) = true := by simp
  have hq3 : IntKind.i64.wrap (q : Int) = q := by rw [IntKind.wrap_i64]; omega
  by_cases hk3 : k % 3 = 0
  · have hg1 : ((k : Int) % 3 == 0) = true := by simp; omega
    have hg2 : ((k : Int).tmod 3 == 0) = true := by
      have : (k : Int).tmod 3 = ((k % 3 : Nat) : Int) := rfl
      rw [this, hk3]; rfl
    go_wp2_with fail
    go_region_held3 (fun w' => w'.cell? ⟨be, who, none⟩ = some (.pointer (some ⟨gg, 0, none⟩)) ∧ w'.cell? ⟨bm, who, none⟩ = some (.pointer (some ⟨hh, 0, none⟩)) ∧ w'.cell? ⟨hh, 0, none⟩ = some (.slice SA p sc) ∧ w'.cell? ⟨hh, 1, none⟩ = some (.int .i64 ak))
      (first | (with_reducible exact s5) | (with_reducible exact s6) | go_keep)
      (first
        | (go_at_call 50
           (with_reducible refine HWT.out.mono ?_)
           rintro e w6 ⟨rfl, rfl⟩)
        | (go_at_call 51
           (with_reducible refine HGB.out.mono ?_)
           rintro e w6 ⟨F6, H6, rfl, hE6, hH6, hs6, ht6, hq6, hc6⟩
           have s6 : w6.cell? ⟨be, who, none⟩ = some (.pointer (some ⟨gg, 0, none⟩)) ∧ w6.cell? ⟨bm, who, none⟩ = some (.pointer (some ⟨hh, 0, none⟩)) ∧ w6.cell? ⟨hh, 0, none⟩ = some (.slice SA p sc) ∧ w6.cell? ⟨hh, 1, none⟩ = some (.int .i64 ak) := by
             have h1 := HID.out.arr hw2 hq6 (fun b hb => List.mem_append.1 hb) who
             exact ⟨h1.1.trans s5.1, h1.2.1.trans s5.2.1, (hc6 0 (by omega)).trans s5.2.2.1, (hc6 1 (by omega)).trans s5.2.2.2⟩
           have HE6 := Lib.hid hE6
           have HH6 := Lib.hid hH6
           have HS6 := Lib.hid hs6
           have HT6 := Lib.hid ht6
           have HQ6 := Lib.hid hq6
           clear hE6 hH6 hs6 ht6 hq6 hc6))
    go_wp2_with fail
    have hx1 := HE6.out
    have hx2 := HH6.out
    rw [HGG.out] at hx1
    rw [HHH.out] at hx2
    exact ⟨_, Lib.hid (HID.out.gotten hw2 hx1 hx2 HS6.out HT6.out HQ6.out)⟩
  · have hg2 : ((k : Int).tmod 3 == 0) = false := by
      have : (k : Int).tmod 3 = ((k % 3 : Nat) : Int) := rfl
      rw [this]; simp; omega
    have hg1 : ((k : Int) % 3 == 0) = false := by simp; omega
    have hg3 : decide ((k : Int) % 3 = 0) = false := by simp; omega
    have hg4 : decide ((k : Int).tmod 3 = 0) = false := by
      have : (k : Int).tmod 3 = ((k % 3 : Nat) : Int) := rfl
      rw [this]; simp; omega
    have t1 : wr.cell? ⟨be, who, none⟩ = some (.pointer (some ⟨gg, 0, none⟩)) := s5.1
    have t2 : wr.cell? ⟨bm, who, none⟩ = some (.pointer (some ⟨hh, 0, none⟩)) := s5.2.1
    have t3 : wr.cell? ⟨hh, 0, none⟩ = some (.slice SA p sc) := s5.2.2.1
    have t4 : wr.cell? ⟨hh, 1, none⟩ = some (.int .i64 ak) := s5.2.2.2
    clear s5
    go_wp2_with fail
    go_quiet ((go_at_call 50; (with_reducible exact Calls.quiet_of_same (HWN.out _))))
    go_wp2_with fail
    exact ⟨D, Lib.hid (HI.out.below ⟨rfl, rfl, rfl, Nat.le_refl _, fun _ _ => rfl⟩)⟩
end Go.Proofs.Ytlgcdcjfobfoiaa
