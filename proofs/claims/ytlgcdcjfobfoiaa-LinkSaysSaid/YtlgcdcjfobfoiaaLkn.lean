/-
  The arm of Send in the law LinkSays. Conditions: fewer than 60 rounds.
-/
import Derived.Test.YtlgcdcjfobfoiaaLkm
namespace Go.Proofs.Ytlgcdcjfobfoiaa
open Go.RowKit
set_option maxRecDepth 100000

set_option maxHeartbeats 12000000 in
theorem lsSend_any {x0 x2 x3 x4 x11 x12 x13 x14 x15 x16 x17 x18 x19 x20 x21 x22 x23 x24 x25 x26 x27 x28 x29 x30 x31 x32 x33 x34 x35 x36 x37 x38 x39 x40 x41 x42 x43 x44 x45 x46 x47 x48 x49 x50 x51 x52 x53 x54 x55 x56 x57 x58 x59 x60 x61 x62 x63 x64 x65 x66 x67 x68 x69 x70 x71 x72 x73 x74 x75 x76 x77 x78 x79 x80 x81 x82 x83 x84 x85 x86 x87 x88 x89 x90 x91 x92 x93 x94 x95 x96 x97 x98 x99 x100 x101 x102 x103 x104 x105 x106 x107 x108 x109 x110 x111 x112 x113 x114 x115 x116 x117 x118 x119 x120 x121 x122 x123 x124 x125 x126 x127 x128 x129 x130 x131 x132 x133 x134 x135 x136 x137 x138 x139 x140 x141 x142 x143 x144 x145 x146 x147 x148 x149 x150 x151 x152 x153 x154 x155 x156 x157 x158 x159 x160 x161 x162 x163 x164 x165 x166 x167 x168 x169 x170 x171 x172 x173 x174 x175 x176 x177 x178 x179 x180 x181 x182 x183 x184 x185 x186 x187 x188 x189 x190 x191 x192 x193 x194 x195 x196 x197 x198 x199 x200 x201 x202 x203 x204 x205 x206 x207 x208 x209 x210 x211 x212 x213 x214 x215 x216 x217 x218 x219 x220 x221 x222 x223 x224 x225 x226 x227 x228 x229 x230 x231 x232 x233 x234 x235 x236 : Value} {Q : Exit → Act → World → Prop} {RA : Option Addr} {rn rc be bm ba k who : Nat} {z : Int} {raw : List Nat} {w wr : World} {D : Nat → Sd} (hk60 : k < 60) (hw2 : who < 2) (HI : Hid (LsI w wr be bm ba k D))
    (hN : ∀ (y11 y12 y13 y93 y94 y95 y96 y97 y98 y99 y100 y101 y102 y103 y104 y105 y106 y107 y108 y109 y110 y111 y112 y113 y114 y115 y116 y117 y118 y119 y120 y121 y122 y123 y124 y125 y126 y127 y128 y129 y130 y131 y132 y133 y134 y135 y136 y137 y138 y139 : Value) (w' : World), (∃ D', Hid (LsI w w' be bm ba (k + 1) D')) → Q .normal ⟨#[x0, .slice RA rn rc, x2, x3, x4, .slice (some ⟨be, 0, none⟩) 2 2, .slice (some ⟨bm, 0, none⟩) 2 2, .pointer (some ⟨ba, 0, none⟩), .int .i64 k, .int .i64 z, .int .i64 who, y11, y12, y13, x14, x15, x16, x17, x18, x19, x20, x21, x22, x23, x24, x25, x26, x27, x28, x29, x30, x31, x32, x33, x34, x35, x36, x37, x38, x39, x40, x41, x42, x43, x44, x45, x46, x47, x48, x49, x50, x51, x52, x53, x54, x55, x56, x57, x58, x59, x60, x61, x62, x63, x64, x65, x66, x67, x68, x69, x70, x71, x72, x73, x74, x75, x76, x77, x78, x79, x80, x81, x82, x83, x84, x85, x86, x87, x88, x89, x90, x91, x92, y93, y94, y95, y96, y97, y98, y99, y100, y101, y102, y103, y104, y105, y106, y107, y108, y109, y110, y111, y112, y113, y114, y115, y116, y117, y118, y119, y120, y121, y122, y123, y124, y125, y126, y127, y128, y129, y130, y131, y132, y133, y134, y135, y136, y137, y138, y139, x140, x141, x142, x143, x144, x145, x146, x147, x148, x149, x150, x151, x152, x153, x154, x155, x156, x157, x158, x159, x160, x161, x162, x163, x164, x165, x166, x167, x168, x169, x170, x171, x172, x173, x174, x175, x176, x177, x178, x179, x180, x181, x182, x183, x184, x185, x186, x187, x188, x189, x190, x191, x192, x193, x194, x195, x196, x197, x198, x199, x200, x201, x202, x203, x204, x205, x206, x207, x208, x209, x210, x211, x212, x213, x214, x215, x216, x217, x218, x219, x220, x221, x222, x223, x224, x225, x226, x227, x228, x229, x230, x231, x232, x233, x234, x235, x236], []⟩ w')
    (hE : ∀ (y11 y12 y13 y93 y94 y95 y96 y97 y98 y99 y100 y101 y102 y103 y104 y105 y106 y107 y108 y109 y110 y111 y112 y113 y114 y115 y116 y117 y118 y119 y120 y121 y122 y123 y124 y125 y126 y127 y128 y129 y130 y131 y132 y133 y134 y135 y136 y137 y138 y139 : Value) (w' : World), (∃ D', Hid (LsI w w' be bm ba (k + 1) D')) → Q (.exit 1) ⟨#[x0, .slice RA rn rc, x2, x3, x4, .slice (some ⟨be, 0, none⟩) 2 2, .slice (some ⟨bm, 0, none⟩) 2 2, .pointer (some ⟨ba, 0, none⟩), .int .i64 k, .int .i64 z, .int .i64 who, y11, y12, y13, x14, x15, x16, x17, x18, x19, x20, x21, x22, x23, x24, x25, x26, x27, x28, x29, x30, x31, x32, x33, x34, x35, x36, x37, x38, x39, x40, x41, x42, x43, x44, x45, x46, x47, x48, x49, x50, x51, x52, x53, x54, x55, x56, x57, x58, x59, x60, x61, x62, x63, x64, x65, x66, x67, x68, x69, x70, x71, x72, x73, x74, x75, x76, x77, x78, x79, x80, x81, x82, x83, x84, x85, x86, x87, x88, x89, x90, x91, x92, y93, y94, y95, y96, y97, y98, y99, y100, y101, y102, y103, y104, y105, y106, y107, y108, y109, y110, y111, y112, y113, y114, y115, y116, y117, y118, y119, y120, y121, y122, y123, y124, y125, y126, y127, y128, y129, y130, y131, y132, y133, y134, y135, y136, y137, y138, y139, x140, x141, x142, x143, x144, x145, x146, x147, x148, x149, x150, x151, x152, x153, x154, x155, x156, x157, x158, x159, x160, x161, x162, x163, x164, x165, x166, x167, x168, x169, x170, x171, x172, x173, x174, x175, x176, x177, x178, x179, x180, x181, x182, x183, x184, x185, x186, x187, x188, x189, x190, x191, x192, x193, x194, x195, x196, x197, x198, x199, x200, x201, x202, x203, x204, x205, x206, x207, x208, x209, x210, x211, x212, x213, x214, x215, x216, x217, x218, x219, x220, x221, x222, x223, x224, x225, x226, x227, x228, x229, x230, x231, x232, x233, x234, x235, x236], []⟩ w')
    : Code.wp Try.prog lsSend Q ⟨#[x0, .slice RA rn rc, x2, x3, x4, .slice (some ⟨be, 0, none⟩) 2 2, .slice (some ⟨bm, 0, none⟩) 2 2, .pointer (some ⟨ba, 0, none⟩), .int .i64 k, .int .i64 z, .int .i64 who, x11, x12, x13, x14, x15, x16, x17, x18, x19, x20, x21, x22, x23, x24, x25, x26, x27, x28, x29, x30, x31, x32, x33, x34, x35, x36, x37, x38, x39, x40, x41, x42, x43, x44, x45, x46, x47, x48, x49, x50, x51, x52, x53, x54, x55, x56, x57, x58, x59, x60, x61, x62, x63, x64, x65, x66, x67, x68, x69, x70, x71, x72, x73, x74, x75, x76, x77, x78, x79, x80, x81, x82, x83, x84, x85, x86, x87, x88, x89, x90, x91, x92, x93, x94, x95, x96, x97, x98, x99, x100, x101, x102, x103, x104, x105, x106, x107, x108, x109, x110, x111, x112, x113, x114, x115, x116, x117, x118, x119, x120, x121, x122, x123, x124, x125, x126, x127, x128, x129, x130, x131, x132, x133, x134, x135, x136, x137, x138, x139, x140, x141, x142, x143, x144, x145, x146, x147, x148, x149, x150, x151, x152, x153, x154, x155, x156, x157, x158, x159, x160, x161, x162, x163, x164, x165, x166, x167, x168, x169, x170, x171, x172, x173, x174, x175, x176, x177, x178, x179, x180, x181, x182, x183, x184, x185, x186, x187, x188, x189, x190, x191, x192, x193, x194, x195, x196, x197, x198, x199, x200, x201, x202, x203, x204, x205, x206, x207, x208, x209, x210, x211, x212, x213, x214, x215, x216, x217, x218, x219, x220, x221, x222, x223, x224, x225, x226, x227, x228, x229, x230, x231, x232, x233, x234, x235, x236], []⟩ wr := by
  conv => arg 2; whnf
  have hwz : (who : Int) < 2 := by omega
  have hwz0 : (0 : Int) ≤ who := by omega
  obtain ⟨i5, hi5, hu0, hu1, hu2⟩ := info_parts T.info5
  obtain ⟨i30, hi30, hv0, hv1, hv2⟩ := info_parts T.info30
  obtain ⟨M, hM, hM1⟩ := and_maskL (z / 16) 1023 10 rfl (by omega)
  replace hM : Go.bits .and .i64 (z / 16) 1023 = (M : Int) := hM
  obtain ⟨q, hq⟩ : ∃ q : Nat, q = min M 1001 := ⟨_, rfl⟩
  have hmq : min (M : Int) 1001 = q := by omega
  have hq1 : q ≤ 1001 := by omega
  clear hq
  go_wp2_with
    (at_make
     go_must (refine wpList_make_full _ rfl _ _ 30 rfl wr.heap.size 5 i5 (.int .u8 0) 1 Try.underlying30 hi5 hu0 hu1 .i64 .i64 _ _ q rfl rfl rfl rfl (by rw [hu2]; omega) (by unfold maxLen; omega) (Nat.le_refl _) ?_)
     intro w5 hown5 hg5
     obtain ⟨hgc, hbk5⟩ := own_full hown5
     rw [fillA_zero q k] at hbk5
     have hb5 := (Below.refl wr.heap.size wr).grown hg5 (Nat.le_refl _) (fun q hq => by cases hq)
     clear hown5)
  clear hg5 hM hmq
  obtain ⟨gc, hgw⟩ : ∃ gc, gc = wr.heap.size := ⟨_, rfl⟩
  rw [← hgw] at hbk5 hb5 hgc ⊢
  have HGC := Lib.hid hgw
  clear hgw
  obtain ⟨wk, rfl⟩ : ∃ wk, wk = wr := ⟨wr, rfl⟩
  go_loopg [100] q (fun g v wl => ∃ j : Nat, j ≤ q ∧ g = q - j ∧ v = .int .i64 j ∧ Hid (Bk wl gc 5 (fillA q k j) ∧ Below gc wk wl))
  case atStart => exact ⟨0, Nat.zero_le _, rfl, rfl, Lib.hid ⟨hbk5, hb5⟩⟩
  case round =>
    obtain ⟨j, hj, rfl, rfl, HB⟩ := hrel
    by_cases hjq : j < q
    · obtain ⟨u, hu⟩ := fillA_at q k j j hjq hj
      have hc := (HB.out.1.cell j).trans hu
      have hf := HB.out.1.frozen j
      have hset := HB.out.1.set_ j (.int .u8 (((k + j) % 256 : Nat) : Int))
      obtain ⟨r, hr⟩ : ∃ r, q = j + 1 + r := ⟨q - (j + 1), by omega⟩
      rw [hr, fillA_set r k j, ← hr] at hset
      rw [show (((k + j) % 256 : Nat) : Int) = ((k : Int) + j) % 256 by omega] at hset
      have hb2 := HB.out.2.setCell (p := ⟨gc, j, none⟩) (Nat.le_refl _) (.int .u8 (((k : Int) + j) % 256))
      have HS := Lib.hid hset
      have HB2 := Lib.hid hb2
      have hjz : (j : Int) < q := by omega
      clear hset hb2 hu hr HB hbk5 hb5
      go_wp2_with fail
      go_roundg (q - (j + 1))
      case measure => omega
      case rel => exact ⟨j + 1, by omega, rfl, by go_num, Lib.hid ⟨HS.out, HB2.out⟩⟩
    · obtain rfl : j = q := by omega
      have hbw : Below wk.heap.size wk wr := by rw [← HGC.out]; exact HB.out.2
      have hIl := HI.out.below hbw
      have hok := MsOk.fill HB.out.1 hq1
      have hS := hIl.sd who hw2
      have hce := hIl.cE hw2
      by_cases hq3 : j ≤ 1000
      · have hsend := send_any ⟨some ⟨gc, 0, none⟩, j, j, fillD j k⟩ wr hq3 hok (by rw [List.length_drop]; have := hS.sle; omega) hIl.bel.size hS.en
        have HSEND := Lib.hid hsend
        have HIL := Lib.hid hIl
        have HOK := Lib.hid hok
        have hngt : ¬ ((1000 : Int) < (j : Int)) := by omega
        clear hsend hIl hok hS HB hbk5 hb5 hbw
        obtain ⟨gg, hgg⟩ : ∃ gg, gg = (D who).g := ⟨_, rfl⟩
        obtain ⟨hh, hhh⟩ : ∃ hh, hh = (D who).h := ⟨_, rfl⟩
        rw [← hgg] at hce HSEND
        have HGG := Lib.hid hgg
        have HHH := Lib.hid hhh
        clear hgg hhh
        go_wp2_with fail
        refine HSEND.out.mono ?_
        rintro e w6 ⟨F6, rfl, hE6, hs6, hq6⟩
        have hS := HIL.out.sd who hw2
        obtain ⟨CS, hCS⟩ : ∃ CS : Array Value, CS = #[.pointer (some ⟨(D 0).h, 0, none⟩), .pointer (some ⟨(D 1).h, 0, none⟩)] := ⟨_, rfl⟩
        have hBM6 : Bk w6 bm 73 CS := by rw [hCS]; exact (hq6.low bm HIL.out.bkm.lt fun hx => (HIL.out.dB who hw2 bm (by simp [Sd.bs, hx])).2.1 rfl).trans HIL.out.bkm
        have hCw : CS[who]? = some (.pointer (some ⟨hh, 0, none⟩)) := by
          have h1 := HIL.out.cM hw2
          rw [← HHH.out] at h1
          rw [hCS]
          exact (HIL.out.bkm.cell who).symm.trans h1
        have hM6 : w6.cell? ⟨bm, who, none⟩ = some (.pointer (some ⟨hh, 0, none⟩)) := (hBM6.cell who).trans hCw
        have HCW := Lib.hid hCw
        have HBM6 := Lib.hid hBM6
        clear hCS hBM6 hCw
        have hH6 := (hS.ha.fq hq6 fun x hx hx2 => hS.dFH x hx2 hx)
        rw [← HHH.out] at hH6
        obtain ⟨Ss, Ns, SA, NA, sc, nc, hst, hSs, hNs⟩ := hH6
        obtain ⟨p, hp⟩ : ∃ p, p = Ss.length := ⟨_, rfl⟩
        have hp60 : p ≤ 60 := by have h1 := hS.sle; have h2 := congrArg List.length hSs; simp only [List.length_map] at h2; omega
        have hk6 : Bk w6 hh 76 #[.slice SA p sc, .int .i64 (D who).first, .int .i64 (D who).next, .slice NA Ns.length nc] := by rw [hp]; exact hst.bk
        have hOW : w6.ownsRow w.heap.size 30 1 (.slice SA p sc) p (msV Ss) := by rw [hp]; exact hst.sent
        have hcH : w6.cell? ⟨hh, 0, none⟩ = some (.slice SA p sc) := hk6.cell 0
        have hfH := hk6.frozen 0
        have hne6 : (Value.slice SA p sc).ownBlock ≠ some hh := fun e => hst.ne_sent (by rw [own_blk_to] at e; exact e)
        have HM6 := Lib.hid hM6
        have HST := Lib.hid hst
        have HSS := Lib.hid hSs
        have HNS := Lib.hid hNs
        have HP := Lib.hid hp
        have HK6 := Lib.hid hk6
        have HOW := Lib.hid hOW
        have HNE6 := Lib.hid hne6
        have HE6 := Lib.hid hE6
        have HS6 := Lib.hid hs6
        have HQ6 := Lib.hid hq6
        have hmA : (w6.alloc (.cells #[.slice (some ⟨gc, 0, none⟩) j j] 30)).drew.cell? ⟨bm, who, none⟩ = some (.pointer (some ⟨hh, 0, none⟩)) := (((HBM6.out.drewN 1).alloc _).cell who).trans HCW.out
        have hhA : (w6.alloc (.cells #[.slice (some ⟨gc, 0, none⟩) j j] 30)).drew.cell? ⟨hh, 0, none⟩ = some (.slice SA p sc) := ((HK6.out.drewN 1).alloc _).cell 0
        have HOA : Hid ((w6.alloc (.cells #[.slice (some ⟨gc, 0, none⟩) j j] 30)).drew.ownsRow w.heap.size 30 1 (.slice SA p sc) p (msV Ss)) := Lib.hid (World.ownsRow.alloc (w := w6.drew) hOW _)
        have hbase6 : w.heap.size ≤ w6.heap.size := Nat.le_trans HIL.out.bel.size HQ6.out.size
        have HNB : Hid ((Value.slice SA p sc).ownBlock ≠ some bm) := Lib.hid fun e => by
          obtain ⟨_, cs, hb⟩ := own_blk hOW bm (own_blk_of e)
          exact Bk.ne_ hb HBM6.out (by decide) rfl
        clear hS hst hSs hNs hp hk6 hOW hne6 hE6 hs6 hq6 hfH
        go_wp2_with fail
        go_cut [] from 122 to 137 (fun wx => ∃ D', Hid (LsI w wx be bm ba (k + 1) D'))
        case first =>
          rename_i J0 Kp0 A1 A0
          refine wp_region_noPanic ?_
          go_region_law
            ((refine step_append_one rfl (.tmp 132) (.tmp 134) 74 rfl w.heap.size 30 i30 (.slice none 0 0) 1 24 Try.underlying74 hi30 hv0 hv1 hv2 rfl (by decide) (.slice SA p sc) p (msV Ss) rfl HOA.out w6.heap.size 1 30 #[.slice (some ⟨gc, 0, none⟩) j j] rfl (Bk.new _ _ _) rfl ?c1 (p + 1) rfl ?c2 ?c3 ?c4 ?_
              case c1 => simp [Value.oneCell']
              case c2 => unfold maxLen; omega
              case c3 => omega
              case c4 => simp; omega
              intro g7 c7 w7 hown7 hg7 hat7
              have hb7 : Bk w7 bm 73 CS := ((HBM6.out.drewN 1).alloc _).grown hg7 (fun e => HNB.out e.symm)
              have hk7 : Bk w7 hh 76 #[.slice SA p sc, .int .i64 (D who).first, .int .i64 (D who).next, .slice NA Ns.length nc] := ((HK6.out.drewN 1).alloc _).grown hg7 (fun e => HNE6.out e.symm)
              have m7 : w7.cell? ⟨bm, who, none⟩ = some (.pointer (some ⟨hh, 0, none⟩)) := (hb7.cell who).trans HCW.out
              have m8 : (w7.setCell ⟨hh, 0, none⟩ (.slice (some ⟨g7, 0, none⟩) (p + 1) c7)).cell? ⟨bm, who, none⟩ = some (.pointer (some ⟨hh, 0, none⟩)) := ((hb7.far (fun e => Bk.ne_ hb7 hk7 (by decide) (show bm = hh from e)) _).cell who).trans HCW.out
              have k7 : w7.cell? ⟨hh, 0, none⟩ = some (.slice SA p sc) := hk7.cell 0
              have f7 := hk7.frozen 0
              have HOWN7 := Lib.hid hown7
              have HG7 := Lib.hid hg7
              have HAT7 := Lib.hid hat7
              clear hb7 hk7 hown7 hg7 hat7))
          all_goals
            (refine NoPanic.normal (A0 _ _ (Met.intro (A1 _ _ ?_)))
             (repeat apply Exists.intro)
             refine ⟨?rel, rfl⟩
             case rel =>
               have hn7 := HHH.out
               subst hn7
               exact LsI.sentM HIL.out hw2 HOK.out hq3 (by rw [← HGG.out]; exact HE6.out) HS6.out HQ6.out HST.out HSS.out HNS.out HP.out HOWN7.out HG7.out HAT7.out)
        case rest =>
          obtain ⟨D6, HD6⟩ := hcut
          go_wp2_with fail
          exact hN _ _ _ _ _ _ _ _ _ _ _ _ _ _ _ _ _ _ _ _ _ _ _ _ _ _ _ _ _ _ _ _ _ _ _ _ _ _ _ _ _ _ _ _ _ _ _ _ _ _ _ ⟨D6, HD6⟩
      · have hq1001 : (1000 : Int) < (j : Int) := by omega
        have hsl := send_large (some ⟨gc, 0, none⟩) j j wr (by omega) (by omega) hS.en
        have HSL := Lib.hid hsl
        have HIL := Lib.hid (hIl.more (Nat.le_succ k))
        clear hsl hIl hok hS HB hbk5 hb5 hbw
        obtain ⟨gg, hgg⟩ : ∃ gg, gg = (D who).g := ⟨_, rfl⟩
        rw [← hgg] at hce HSL
        clear hgg
        go_wp2_with fail
        refine HSL.out.mono ?_
        rintro e w6 ⟨rfl, rfl⟩
        go_wp2_with fail
        exact ⟨D, HIL⟩
end Go.Proofs.Ytlgcdcjfobfoiaa
