/-
  The arm of packets in the air in the law LinkSays. Conditions: fewer than 60 rounds.
-/
import Derived.Test.YtlgcdcjfobfoiaaLkm
namespace Go.Proofs.Ytlgcdcjfobfoiaa
open Go.RowKit
set_option maxRecDepth 100000

set_option maxHeartbeats 8000000 in
theorem lsDef_any {x0 x2 x3 x4 x11 x12 x13 x14 x15 x16 x17 x18 x19 x20 x21 x22 x23 x24 x25 x26 x27 x28 x29 x30 x31 x32 x33 x34 x35 x36 x37 x38 x39 x40 x41 x42 x43 x44 x45 x46 x47 x48 x49 x50 x51 x52 x53 x54 x55 x56 x57 x58 x59 x60 x61 x62 x63 x64 x65 x66 x67 x68 x69 x70 x71 x72 x73 x74 x75 x76 x77 x78 x79 x80 x81 x82 x83 x84 x85 x86 x87 x88 x89 x90 x91 x92 x93 x94 x95 x96 x97 x98 x99 x100 x101 x102 x103 x104 x105 x106 x107 x108 x109 x110 x111 x112 x113 x114 x115 x116 x117 x118 x119 x120 x121 x122 x123 x124 x125 x126 x127 x128 x129 x130 x131 x132 x133 x134 x135 x136 x137 x138 x139 x140 x141 x142 x143 x144 x145 x146 x147 x148 x149 x150 x151 x152 x153 x154 x155 x156 x157 x158 x159 x160 x161 x162 x163 x164 x165 x166 x167 x168 x169 x170 x171 x172 x173 x174 x175 x176 x177 x178 x179 x180 x181 x182 x183 x184 x185 x186 x187 x188 x189 x190 x191 x192 x193 x194 x195 x196 x197 x198 x199 x200 x201 x202 x203 x204 x205 x206 x207 x208 x209 x210 x211 x212 x213 x214 x215 x216 x217 x218 x219 x220 x221 x222 x223 x224 x225 x226 x227 x228 x229 x230 x231 x232 x233 x234 x235 x236 : Value} {Q : Exit → Act → World → Prop} {RA : Option Addr} {rn rc be bm ba k who : Nat} {z : Int} {raw : List Nat} {w wr : World} {D : Nat → Sd} (hk60 : k < 60) (hw2 : who < 2) (HI : Hid (LsI w wr be bm ba k D))
    (hN : ∀ (y15 y42 y43 y44 y45 y46 y47 y48 y49 y50 y51 y52 y53 y54 y55 y56 y57 y58 y59 y60 y61 y62 y63 y64 y65 y66 y67 y68 y69 y70 y71 y72 y73 y74 y75 y76 y77 y78 y79 y80 y81 y82 y83 y84 y85 y86 y87 y88 : Value) (w' : World), (∃ D', Hid (LsI w w' be bm ba (k + 1) D')) → Q .normal ⟨#[x0, .slice RA rn rc, x2, x3, x4, .slice (some ⟨be, 0, none⟩) 2 2, .slice (some ⟨bm, 0, none⟩) 2 2, .pointer (some ⟨ba, 0, none⟩), .int .i64 k, .int .i64 z, .int .i64 who, x11, x12, x13, x14, y15, x16, x17, x18, x19, x20, x21, x22, x23, x24, x25, x26, x27, x28, x29, x30, x31, x32, x33, x34, x35, x36, x37, x38, x39, x40, x41, y42, y43, y44, y45, y46, y47, y48, y49, y50, y51, y52, y53, y54, y55, y56, y57, y58, y59, y60, y61, y62, y63, y64, y65, y66, y67, y68, y69, y70, y71, y72, y73, y74, y75, y76, y77, y78, y79, y80, y81, y82, y83, y84, y85, y86, y87, y88, x89, x90, x91, x92, x93, x94, x95, x96, x97, x98, x99, x100, x101, x102, x103, x104, x105, x106, x107, x108, x109, x110, x111, x112, x113, x114, x115, x116, x117, x118, x119, x120, x121, x122, x123, x124, x125, x126, x127, x128, x129, x130, x131, x132, x133, x134, x135, x136, x137, x138, x139, x140, x141, x142, x143, x144, x145, x146, x147, x148, x149, x150, x151, x152, x153, x154, x155, x156, x157, x158, x159, x160, x161, x162, x163, x164, x165, x166, x167, x168, x169, x170, x171, x172, x173, x174, x175, x176, x177, x178, x179, x180, x181, x182, x183, x184, x185, x186, x187, x188, x189, x190, x191, x192, x193, x194, x195, x196, x197, x198, x199, x200, x201, x202, x203, x204, x205, x206, x207, x208, x209, x210, x211, x212, x213, x214, x215, x216, x217, x218, x219, x220, x221, x222, x223, x224, x225, x226, x227, x228, x229, x230, x231, x232, x233, x234, x235, x236], []⟩ w')
    (hE : ∀ (y15 y42 y43 y44 y45 y46 y47 y48 y49 y50 y51 y52 y53 y54 y55 y56 y57 y58 y59 y60 y61 y62 y63 y64 y65 y66 y67 y68 y69 y70 y71 y72 y73 y74 y75 y76 y77 y78 y79 y80 y81 y82 y83 y84 y85 y86 y87 y88 : Value) (w' : World), (∃ D', Hid (LsI w w' be bm ba (k + 1) D')) → Q (.exit 1) ⟨#[x0, .slice RA rn rc, x2, x3, x4, .slice (some ⟨be, 0, none⟩) 2 2, .slice (some ⟨bm, 0, none⟩) 2 2, .pointer (some ⟨ba, 0, none⟩), .int .i64 k, .int .i64 z, .int .i64 who, x11, x12, x13, x14, y15, x16, x17, x18, x19, x20, x21, x22, x23, x24, x25, x26, x27, x28, x29, x30, x31, x32, x33, x34, x35, x36, x37, x38, x39, x40, x41, y42, y43, y44, y45, y46, y47, y48, y49, y50, y51, y52, y53, y54, y55, y56, y57, y58, y59, y60, y61, y62, y63, y64, y65, y66, y67, y68, y69, y70, y71, y72, y73, y74, y75, y76, y77, y78, y79, y80, y81, y82, y83, y84, y85, y86, y87, y88, x89, x90, x91, x92, x93, x94, x95, x96, x97, x98, x99, x100, x101, x102, x103, x104, x105, x106, x107, x108, x109, x110, x111, x112, x113, x114, x115, x116, x117, x118, x119, x120, x121, x122, x123, x124, x125, x126, x127, x128, x129, x130, x131, x132, x133, x134, x135, x136, x137, x138, x139, x140, x141, x142, x143, x144, x145, x146, x147, x148, x149, x150, x151, x152, x153, x154, x155, x156, x157, x158, x159, x160, x161, x162, x163, x164, x165, x166, x167, x168, x169, x170, x171, x172, x173, x174, x175, x176, x177, x178, x179, x180, x181, x182, x183, x184, x185, x186, x187, x188, x189, x190, x191, x192, x193, x194, x195, x196, x197, x198, x199, x200, x201, x202, x203, x204, x205, x206, x207, x208, x209, x210, x211, x212, x213, x214, x215, x216, x217, x218, x219, x220, x221, x222, x223, x224, x225, x226, x227, x228, x229, x230, x231, x232, x233, x234, x235, x236], []⟩ w')
    : Code.wp Try.prog lsDef Q ⟨#[x0, .slice RA rn rc, x2, x3, x4, .slice (some ⟨be, 0, none⟩) 2 2, .slice (some ⟨bm, 0, none⟩) 2 2, .pointer (some ⟨ba, 0, none⟩), .int .i64 k, .int .i64 z, .int .i64 who, x11, x12, x13, x14, x15, x16, x17, x18, x19, x20, x21, x22, x23, x24, x25, x26, x27, x28, x29, x30, x31, x32, x33, x34, x35, x36, x37, x38, x39, x40, x41, x42, x43, x44, x45, x46, x47, x48, x49, x50, x51, x52, x53, x54, x55, x56, x57, x58, x59, x60, x61, x62, x63, x64, x65, x66, x67, x68, x69, x70, x71, x72, x73, x74, x75, x76, x77, x78, x79, x80, x81, x82, x83, x84, x85, x86, x87, x88, x89, x90, x91, x92, x93, x94, x95, x96, x97, x98, x99, x100, x101, x102, x103, x104, x105, x106, x107, x108, x109, x110, x111, x112, x113, x114, x115, x116, x117, x118, x119, x120, x121, x122, x123, x124, x125, x126, x127, x128, x129, x130, x131, x132, x133, x134, x135, x136, x137, x138, x139, x140, x141, x142, x143, x144, x145, x146, x147, x148, x149, x150, x151, x152, x153, x154, x155, x156, x157, x158, x159, x160, x161, x162, x163, x164, x165, x166, x167, x168, x169, x170, x171, x172, x173, x174, x175, x176, x177, x178, x179, x180, x181, x182, x183, x184, x185, x186, x187, x188, x189, x190, x191, x192, x193, x194, x195, x196, x197, x198, x199, x200, x201, x202, x203, x204, x205, x206, x207, x208, x209, x210, x211, x212, x213, x214, x215, x216, x217, x218, x219, x220, x221, x222, x223, x224, x225, x226, x227, x228, x229, x230, x231, x232, x233, x234, x235, x236], []⟩ wr := by
  conv => arg 2; whnf
  have hwz : (who : Int) < 2 := by omega
  have hwz0 : (0 : Int) ≤ who := by omega
  obtain ⟨i5, hi5, hu0, hu1, hu2⟩ := info_parts T.info5
  obtain ⟨i30, hi30, hv0, hv1, hv2⟩ := info_parts T.info30
  have hS := HI.out.sd who hw2
  have hce := HI.out.cE hw2
  have hcm := HI.out.cM hw2
  obtain ⟨gg, hgg⟩ : ∃ gg, gg = (D who).g := ⟨_, rfl⟩
  obtain ⟨hh, hhh⟩ : ∃ hh, hh = (D who).h := ⟨_, rfl⟩
  rw [← hgg] at hce
  rw [← hhh] at hcm
  have HGG := Lib.hid hgg
  have HHH := Lib.hid hhh
  have HS := Lib.hid hS
  clear hgg hhh hS
  have hca := HI.out.cA hw2
  obtain ⟨an, han⟩ : ∃ an, an = (D who).Air.length := ⟨_, rfl⟩
  obtain ⟨OA, hOA⟩ : ∃ OA, OA = (D who).A := ⟨_, rfl⟩
  obtain ⟨oc, hoc⟩ : ∃ oc, oc = (D who).c := ⟨_, rfl⟩
  have hair := HS.out.air
  rw [← hOA, ← han, ← hoc] at hca hair
  by_cases hz0 : an = 0
  · have hz1 : ((an : Int) == 0) = true := by simp; omega
    have HIM := Lib.hid (HI.out.more (Nat.le_succ k))
    clear hair hOA hoc han
    go_wp2_with fail
    exact ⟨D, HIM⟩
  · have hz1 : ((an : Int) == 0) = false := by simp; omega
    obtain ⟨M, hM, hM1⟩ := and_maskL (z / 16) 1023 10 rfl (by omega)
    replace hM : Go.bits .and .i64 (z / 16) 1023 = (M : Int) := hM
    obtain ⟨r, hr⟩ : ∃ r, r = M % an := ⟨_, rfl⟩
    have hrlt : r < an := by rw [hr]; exact Nat.mod_lt _ (by omega)
    have hrz : (r : Int) < an := by omega
    have hrz0 : (0 : Int) ≤ r := by omega
    have hmod : (M : Int).tmod an = r := by rw [hr]; rfl
    have hmod2 : (M : Int) % an = r := by rw [hr]; rfl
    obtain ⟨m, hm⟩ : ∃ m, (D who).Air[r]? = some m := ⟨_, List.getElem?_eq_getElem (by rw [← han]; exact hrlt)⟩
    obtain ⟨ab, ao, hab, _, hel⟩ := (Rd.of_own hair).at1 (k := r) hrlt (msV_get hm)
    rw [hab] at hca hair
    have hmok := HS.out.ok m (List.mem_of_getElem? hm)
    have hcl := cloneBytes_any m.A m.n m.c wr.heap.size (bytesV m.dat) wr.drew (hmok.1.byt fun _ _ h => h).tr.rd (bytesV_one _) (Nat.le_refl _) (by omega)
    have HCL := Lib.hid hcl
    have HMOK := Lib.hid hmok
    have HLEN : Hid (ao + r < 0 ∨ True) := Lib.hid (.inr trivial)
    have hltA : ab < wr.heap.size := by
      obtain ⟨_, cs, hb⟩ := own_blk hair ab rfl
      exact hb.lt
    have s5 : wr.drew.cell? ⟨ba, who, none⟩ = some (.slice (some ⟨ab, ao, none⟩) an oc) ∧ wr.drew.cell? ⟨ab, ao + r, none⟩ = some (.slice m.A m.n m.c) := ⟨hca, hel⟩
    have hlba := HI.out.bka.lt
    clear hair hOA hoc han hcl hmok hr hel hm
    generalize hmA : m.A = mA at *
    generalize hmn : m.n = mn at *
    generalize hmc : m.c = mc at *
    generalize hmd : m.dat = md at *
    have HMM := Lib.hid (And.intro hmA (And.intro hmn (And.intro hmc hmd)))
    clear hmA hmn hmc hmd
    have HBA := Lib.hid (And.intro hltA hlba)
    clear hltA hlba
    go_wp2_with fail
    go_region_held3 (fun w' => w'.cell? ⟨ba, who, none⟩ = some (.slice (some ⟨ab, ao, none⟩) an oc) ∧ w'.cell? ⟨ab, ao + r, none⟩ = some (.slice mA mn mc))
      (first | (with_reducible exact s5) | (with_reducible exact s6) | go_keep)
      (first
        | (go_at_call 40
           (with_reducible refine HCL.out.mono ?_)
           rintro e w5 ⟨A5, c5, rfl, hown5, hb5⟩
           have s6 : w5.cell? ⟨ba, who, none⟩ = some (.slice (some ⟨ab, ao, none⟩) an oc) ∧ w5.cell? ⟨ab, ao + r, none⟩ = some (.slice mA mn mc) := ⟨(hb5.cell HBA.out.2).trans s5.1, (hb5.cell HBA.out.1).trans s5.2⟩
           have HOWN5 := Lib.hid hown5
           have HB5 := Lib.hid hb5
           clear hown5 hb5))
    have hb5 : Below wr.heap.size wr w5 := (Below.refl _ _).drew.trans HB5.out
    have hI5 := HI.out.below hb5
    have hn17 : 17 ≤ mn ∧ mn ≤ 8033 := HMOK.out.2
    have hmdl : mn = md.length := by have := HMOK.out.1.len; rw [HMM.out.2.1, HMM.out.2.2.2] at this; exact this
    have hmdlt : ∀ b ∈ md, b < 256 := by have := HMOK.out.1.lt; rw [HMM.out.2.2.2] at this; exact this
    obtain ⟨gb, cb, hgb, hgb1, hgb2⟩ := HOWN5.out.form (by omega)
    injection hgb with hgA hgn hgc
    subst hgA hgc
    obtain ⟨Y, hY, hY1⟩ := and_maskL (z / 16384) 7 3 rfl (by omega)
    replace hY : Go.bits .and .i64 (z / 16384) 7 = (Y : Int) := hY
    have HI5 := Lib.hid hI5
    have HMDL := Lib.hid hmdl
    have HMDLT := Lib.hid hmdlt
    have HB5W := Lib.hid hb5
    have HGB := Lib.hid (And.intro hgb1 hgb2)
    have hcap5 := own_cap HOWN5.out
    clear hb5 hI5 hmdl hmdlt hgb1 hgb2 hgn s6 s5 hca
    by_cases hY7 : Y = 7
    · subst hY7
      obtain ⟨r2, hr2⟩ : ∃ r2, r2 = M % mn := ⟨_, rfl⟩
      have hr2lt : r2 < mn := by rw [hr2]; exact Nat.mod_lt _ (by omega)
      have hr2z : (r2 : Int) < mn := by omega
      have hr2z0 : (0 : Int) ≤ r2 := by omega
      have hmod3 : (M : Int).tmod mn = r2 := by rw [hr2]; rfl
      have hmod4 : (M : Int) % mn = r2 := by rw [hr2]; rfl
      have hmn0 : ((mn : Int) == 0) = false := by simp; omega
      obtain ⟨x, hx⟩ : ∃ x, md[r2]? = some x := ⟨_, List.getElem?_eq_getElem (by have := HMDL.out; omega)⟩
      have hxlt := HMDLT.out x (List.mem_of_getElem? hx)
      have hcx : w5.cell? ⟨gb, r2, none⟩ = some (.int .u8 x) := by
        rw [HOWN5.out.cellAt r2 (by omega)]
        simp [bytesV, hx]
      have hfx := HOWN5.out.frozenAt r2
      have hst5 := (HOWN5.out.stored r2 (.int .u8 (((x + 1) % 256 : Nat) : Int)))
      have hset : (bytesV md).set r2 (.int .u8 (((x + 1) % 256 : Nat) : Int)) = bytesV (md.set r2 ((x + 1) % 256)) := by simp [bytesV, List.map_set]
      rw [hset] at hst5
      have e1 : (((x + 1) % 256 : Nat) : Int) = ((x : Int) + 1) % 256 := by omega
      rw [e1] at hst5
      have hbx : Below wr.heap.size wr (w5.setCell ⟨gb, r2, none⟩ (.int .u8 (((x : Int) + 1) % 256))) := HB5W.out.setCell (p := ⟨gb, r2, none⟩) HGB.out.1 _
      have HIX := Lib.hid (HI.out.below hbx)
      obtain ⟨ml, hml⟩ : ∃ ml, ml = md.set r2 ((x + 1) % 256) := ⟨_, rfl⟩
      rw [← hml] at hst5
      have HMOX : Hid (MsOk (w5.setCell ⟨gb, r2, none⟩ (.int .u8 (((x : Int) + 1) % 256))) ⟨some ⟨gb, 0, none⟩, mn, c5, ml⟩) := Lib.hid ⟨Tr.of_own hst5.1, by show mn = ml.length; rw [hml, List.length_set]; exact HMDL.out, hcap5.1, hcap5.2, by
        intro b hb
        rw [show (Ms.mk (some ⟨gb, 0, none⟩) mn c5 ml).dat = ml from rfl, hml] at hb
        rcases List.mem_or_eq_of_mem_set hb with h1 | h1
        · exact HMDLT.out b h1
        · rw [h1]; exact Nat.mod_lt _ (by omega)⟩
      clear hst5 hset hml hbx hx e1 hr2
      go_wp2_with fail
      obtain ⟨wx, hwx⟩ : ∃ wx, wx = w5.setCell ⟨gb, r2, none⟩ (.int .u8 (((x : Int) + 1) % 256)) := ⟨_, rfl⟩
      rw [← hwx] at HIX HMOX ⊢
      clear hwx
      have HRD : Hid (∀ w', Fq (D who).F wx.drew w' → Rd w' w'.heap.size 1 (some ⟨gb, 0, none⟩) mn (bytesV ml)) := Lib.hid fun w' hq => ((HMOX.out.byt fun _ _ h => h).byt hq.byt).tr.rd
      have hIw := HIX.out.drew
      have hSd := hIw.sd who hw2
      obtain ⟨f', n', G', code, hin, htk, b1, b2, b3⟩ := in_tk (next := (D who).next) (G := (D who).G) ml hSd.fle
      have hi := in_any (some ⟨gb, 0, none⟩) mn c5 ml wx.drew hSd.en (HRD.out _ Fq.refl) HMOX.out.len hcap5.1 hcap5.2 HMOX.out.lt hIw.bel.size (by rw [List.length_drop]; have := hSd.fle; have := hSd.sle; omega) (by have := hSd.nle; omega) (by have := hSd.gle; omega)
      rw [hin, ← HGG.out] at hi
      have HIN := Lib.hid hi
      have HTKR := Lib.hid htk
      have HIW := Lib.hid hIw
      have HBB := Lib.hid (And.intro b1 (And.intro b2 b3))
      have s5 : wx.drew.cell? ⟨be, who, none⟩ = some (.pointer (some ⟨gg, 0, none⟩)) ∧ wx.drew.cell? ⟨bm, who, none⟩ = some (.pointer (some ⟨hh, 0, none⟩)) := by
        have h1 := hIw.cE hw2
        have h2 := hIw.cM hw2
        rw [← HGG.out] at h1
        rw [← HHH.out] at h2
        exact ⟨h1, h2⟩
      clear hIw hSd hin htk b1 b2 b3 hi
      go_wp2_with fail
      go_region_held3 (fun w' => w'.cell? ⟨be, who, none⟩ = some (.pointer (some ⟨gg, 0, none⟩)) ∧ w'.cell? ⟨bm, who, none⟩ = some (.pointer (some ⟨hh, 0, none⟩)))
        (first | (with_reducible exact s5) | (with_reducible exact s6) | (with_reducible exact s7) | go_keep)
        (first
          | (go_at_call 48
             (with_reducible refine HIN.out.mono ?_)
             rintro e w6 ⟨F6, rfl, hE6, hs6, hq6⟩
             have s6 : w6.cell? ⟨be, who, none⟩ = some (.pointer (some ⟨gg, 0, none⟩)) ∧ w6.cell? ⟨bm, who, none⟩ = some (.pointer (some ⟨hh, 0, none⟩)) := by
               have h1 := HIW.out.arr hw2 hq6 (fun b hb => .inl hb) who
               exact ⟨h1.1.trans s5.1, h1.2.1.trans s5.2⟩
             have htk := take_any (some ⟨gb, 0, none⟩) mn c5 w6.heap.size ml w6 rfl ((HIW.out.sd who hw2).ha.fq hq6 fun x hx hx2 => (HIW.out.sd who hw2).dFH x hx2 hx) (HRD.out _ hq6) HMOX.out.len hcap5.1 hcap5.2 HMOX.out.lt (Nat.le_trans HIW.out.bel.size hq6.size) (by have := (HIW.out.sd who hw2).sle; omega) (by have := (HIW.out.sd who hw2).nle; omega) (by have := (HIW.out.sd who hw2).gle; omega)
             rw [HTKR.out, ← HHH.out] at htk
             have HTK := Lib.hid htk
             have HE6 := Lib.hid hE6
             have HS6 := Lib.hid hs6
             have HQ6 := Lib.hid hq6
             clear htk hE6 hs6 hq6)
          | (go_at_call 49
             (with_reducible refine HTK.out.mono ?_)
             rintro e w7 ⟨H7, rfl, hH7, hs7, hq7⟩
             have s7 : w7.cell? ⟨be, who, none⟩ = some (.pointer (some ⟨gg, 0, none⟩)) ∧ w7.cell? ⟨bm, who, none⟩ = some (.pointer (some ⟨hh, 0, none⟩)) := by
               have h1 := HIW.out.arr (E := (D who).F ++ (D who).H) hw2 ((HQ6.out.wide fun x hx => List.mem_append_left _ hx).trans (hq7.wide (G := (D who).F ++ (D who).H) fun x hx => List.mem_append_right _ hx) (SubF.refl _ _)) (fun b hb => List.mem_append.1 hb) who
               exact ⟨h1.1.trans s5.1, h1.2.1.trans s5.2⟩
             have HH7 := Lib.hid hH7
             have HS7 := Lib.hid hs7
             have HQ7 := Lib.hid hq7
             clear hH7 hs7 hq7))
      go_wp2_with fail
      have hx1 := HE6.out
      have hx2 := HH7.out
      rw [HGG.out] at hx1
      rw [HHH.out] at hx2
      exact hN _ _ _ _ _ _ _ _ _ _ _ _ _ _ _ _ _ _ _ _ _ _ _ _ _ _ _ _ _ _ _ _ _ _ _ _ _ _ _ _ _ _ _ _ _ _ _ _ _ <| LsI.took HIW.out hw2 hx1 HS6.out HQ6.out hx2 HS7.out HQ7.out HBB.out.1 HBB.out.2.1 HBB.out.2.2
    · have hY8 : ((Y : Int) == 7) = false := by simp; omega
      have HMOX : Hid (MsOk w5 ⟨some ⟨gb, 0, none⟩, mn, c5, md⟩) := Lib.hid ⟨Tr.of_own HOWN5.out, HMDL.out, hcap5.1, hcap5.2, HMDLT.out⟩
      have HRD : Hid (∀ w', Fq (D who).F w5.drew w' → Rd w' w'.heap.size 1 (some ⟨gb, 0, none⟩) mn (bytesV md)) := Lib.hid fun w' hq => ((HMOX.out.byt fun _ _ h => h).byt hq.byt).tr.rd
      have hIw := HI5.out.drew
      have hSd := hIw.sd who hw2
      obtain ⟨f', n', G', code, hin, htk, b1, b2, b3⟩ := in_tk (next := (D who).next) (G := (D who).G) md hSd.fle
      have hi := in_any (some ⟨gb, 0, none⟩) mn c5 md w5.drew hSd.en (HRD.out _ Fq.refl) HMOX.out.len hcap5.1 hcap5.2 HMOX.out.lt hIw.bel.size (by rw [List.length_drop]; have := hSd.fle; have := hSd.sle; omega) (by have := hSd.nle; omega) (by have := hSd.gle; omega)
      rw [hin, ← HGG.out] at hi
      have HIN := Lib.hid hi
      have HTKR := Lib.hid htk
      have HIW := Lib.hid hIw
      have HBB := Lib.hid (And.intro b1 (And.intro b2 b3))
      have s5 : w5.drew.cell? ⟨be, who, none⟩ = some (.pointer (some ⟨gg, 0, none⟩)) ∧ w5.drew.cell? ⟨bm, who, none⟩ = some (.pointer (some ⟨hh, 0, none⟩)) := by
        have h1 := hIw.cE hw2
        have h2 := hIw.cM hw2
        rw [← HGG.out] at h1
        rw [← HHH.out] at h2
        exact ⟨h1, h2⟩
      clear hIw hSd hin htk b1 b2 b3 hi
      go_wp2_with fail
      go_region_held3 (fun w' => w'.cell? ⟨be, who, none⟩ = some (.pointer (some ⟨gg, 0, none⟩)) ∧ w'.cell? ⟨bm, who, none⟩ = some (.pointer (some ⟨hh, 0, none⟩)))
        (first | (with_reducible exact s5) | (with_reducible exact s6) | (with_reducible exact s7) | go_keep)
        (first
          | (go_at_call 48
             (with_reducible refine HIN.out.mono ?_)
             rintro e w6 ⟨F6, rfl, hE6, hs6, hq6⟩
             have s6 : w6.cell? ⟨be, who, none⟩ = some (.pointer (some ⟨gg, 0, none⟩)) ∧ w6.cell? ⟨bm, who, none⟩ = some (.pointer (some ⟨hh, 0, none⟩)) := by
               have h1 := HIW.out.arr hw2 hq6 (fun b hb => .inl hb) who
               exact ⟨h1.1.trans s5.1, h1.2.1.trans s5.2⟩
             have htk := take_any (some ⟨gb, 0, none⟩) mn c5 w6.heap.size md w6 rfl ((HIW.out.sd who hw2).ha.fq hq6 fun x hx hx2 => (HIW.out.sd who hw2).dFH x hx2 hx) (HRD.out _ hq6) HMOX.out.len hcap5.1 hcap5.2 HMOX.out.lt (Nat.le_trans HIW.out.bel.size hq6.size) (by have := (HIW.out.sd who hw2).sle; omega) (by have := (HIW.out.sd who hw2).nle; omega) (by have := (HIW.out.sd who hw2).gle; omega)
             rw [HTKR.out, ← HHH.out] at htk
             have HTK := Lib.hid htk
             have HE6 := Lib.hid hE6
             have HS6 := Lib.hid hs6
             have HQ6 := Lib.hid hq6
             clear htk hE6 hs6 hq6)
          | (go_at_call 49
             (with_reducible refine HTK.out.mono ?_)
             rintro e w7 ⟨H7, rfl, hH7, hs7, hq7⟩
             have s7 : w7.cell? ⟨be, who, none⟩ = some (.pointer (some ⟨gg, 0, none⟩)) ∧ w7.cell? ⟨bm, who, none⟩ = some (.pointer (some ⟨hh, 0, none⟩)) := by
               have h1 := HIW.out.arr (E := (D who).F ++ (D who).H) hw2 ((HQ6.out.wide fun x hx => List.mem_append_left _ hx).trans (hq7.wide (G := (D who).F ++ (D who).H) fun x hx => List.mem_append_right _ hx) (SubF.refl _ _)) (fun b hb => List.mem_append.1 hb) who
               exact ⟨h1.1.trans s5.1, h1.2.1.trans s5.2⟩
             have HH7 := Lib.hid hH7
             have HS7 := Lib.hid hs7
             have HQ7 := Lib.hid hq7
             clear hH7 hs7 hq7))
      go_wp2_with fail
      have hx1 := HE6.out
      have hx2 := HH7.out
      rw [HGG.out] at hx1
      rw [HHH.out] at hx2
      exact hN _ _ _ _ _ _ _ _ _ _ _ _ _ _ _ _ _ _ _ _ _ _ _ _ _ _ _ _ _ _ _ _ _ _ _ _ _ _ _ _ _ _ _ _ _ _ _ _ _ <| LsI.took HIW.out hw2 hx1 HS6.out HQ6.out hx2 HS7.out HQ7.out HBB.out.1 HBB.out.2.1 HBB.out.2.2
end Go.Proofs.Ytlgcdcjfobfoiaa
