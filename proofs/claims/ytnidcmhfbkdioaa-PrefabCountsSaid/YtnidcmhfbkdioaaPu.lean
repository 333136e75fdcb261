/-
  The parts of a drawn template. Conditions: a stream of numbers; valid kinds and templates that can be read.
-/
import Derived.Test.YtnidcmhfbkdioaaPs
namespace Go.Proofs.Ytnidcmhfbkdioaa
open Go.RowKit
set_option maxRecDepth 100000

noncomputable def pfParts : Code := (Try.f23.body.bind (findB 19)).getD .skip
theorem T.info46 : (Try.prog.info? 46).map (fun i => (i.zero, i.size, i.bytes)) = some (some (.agg #[.int .i64 0, .slice none 0 0]), 2, 32) := by kernel_rfl
/-- The parts drawn so far. -/
def PartsI (w0 w : World) (ks : List Kd) (ts : List Pf) (PA : Option Addr) (m pc : Nat) (pts : List Pt) : Prop :=
  w.ownsRow w0.heap.size 46 2 (.slice PA m pc) m (ptCs pts) ∧ m = pts.length ∧ (∀ z ∈ pts, PtY w 0 z) ∧ (∀ p ∈ pts, ∃ (k : Nat) (u : Pf), p.of_ = k ∧ ts[k]? = some u ∧ GoodOv (ks.map Kd.p) u.p (p.ovs.map Ov.p))

set_option maxHeartbeats 8000000 in
theorem pfParts_any {x1 x2 x3 x4 x9 x10 x11 x12 x13 x14 x15 x16 x17 x18 x19 x20 x21 x22 x23 x24 x25 x26 x27 x28 x29 x30 x31 x32 x33 x34 x35 x36 x37 x38 x39 x40 x41 x42 x43 x44 x45 x46 x47 x48 x49 x50 x51 x52 x53 x54 x55 x56 x57 x58 x59 x60 x61 x62 x63 x64 x65 x66 x67 x68 x69 x70 x71 x72 x73 x74 x75 x76 x77 x78 x79 x80 x81 x82 x83 x84 x85 x86 x87 x88 x89 x90 x91 x92 x93 x94 x95 x96 x97 x98 x99 x100 x101 x102 x103 x104 x105 x106 x107 x108 x109 x110 x111 x112 x113 x114 x115 x116 x117 x118 x119 x120 x121 x122 x123 x124 x125 x126 x127 x128 x129 x130 x131 x132 x133 x134 x135 : Value} {Q : Exit → Act → World → Prop} {w0 wi : World} {s B hp n c i oc q cc : Nat} {A OA CA : Option Addr} {ks : List Kd} {ts : List Pf} (hst0 : StrSt w0 B s) (hst : StrSt wi B s) (hB : B ≤ s) (hs0 : s < w0.heap.size) (hk : KsY w0 0 A n c ks) (hone : ∀ k ∈ ks, oneF k.nm k.fds = 0) (hts : PfsY w0 0 OA i oc ts) (hi : i ≤ 4) (hv : ∀ t ∈ ts, VCs holdK (ks.map Kd.p) (t.cms.map Cm.p)) (hq : Fq [s] w0 wi) (hhp : w0.heap.size ≤ hp) (hbk : Bk wi hp 43 #[.slice CA q cc, .slice none 0 0])
    (hN : ∀ (y14 y15 y16 y67 y68 y69 y70 y71 y72 y73 y74 y75 y76 y77 y78 y79 y80 y81 y82 y83 y84 y85 y86 y87 y88 y89 y90 y91 y92 y93 y94 y95 y96 y97 y98 y99 y100 y101 y102 y103 y104 y105 y106 y107 y108 y109 y110 y111 y112 y113 y114 y115 y116 y117 y118 y119 y120 y121 y122 y123 y124 y125 y126 y127 y128 y129 : Value) (PA : Option Addr) (m pc : Nat) (pts : List Pt) (w' : World), Hid (m ≤ 2 ∧ Bk w' hp 43 #[.slice CA q cc, .slice PA m pc] ∧ PartsI w0 w' ks ts PA m pc pts ∧ StrSt w' B s ∧ Fq [s] w0 w' ∧ Kx 0 [189, 43, 46] wi w') → Q .normal ⟨#[.slice A n c, x1, x2, x3, x4, .pointer (some ⟨s, 0, none⟩), .slice OA i oc, .int .i64 (i : Int), .pointer (some ⟨hp, 0, none⟩), x9, x10, x11, x12, x13, y14, y15, y16, x17, x18, x19, x20, x21, x22, x23, x24, x25, x26, x27, x28, x29, x30, x31, x32, x33, x34, x35, x36, x37, x38, x39, x40, x41, x42, x43, x44, x45, x46, x47, x48, x49, x50, x51, x52, x53, x54, x55, x56, x57, x58, x59, x60, x61, x62, x63, x64, x65, x66, y67, y68, y69, y70, y71, y72, y73, y74, y75, y76, y77, y78, y79, y80, y81, y82, y83, y84, y85, y86, y87, y88, y89, y90, y91, y92, y93, y94, y95, y96, y97, y98, y99, y100, y101, y102, y103, y104, y105, y106, y107, y108, y109, y110, y111, y112, y113, y114, y115, y116, y117, y118, y119, y120, y121, y122, y123, y124, y125, y126, y127, y128, y129, x130, x131, x132, x133, x134, x135], []⟩ w') :
    Code.wp Try.prog pfParts Q ⟨#[.slice A n c, x1, x2, x3, x4, .pointer (some ⟨s, 0, none⟩), .slice OA i oc, .int .i64 (i : Int), .pointer (some ⟨hp, 0, none⟩), x9, x10, x11, x12, x13, x14, x15, x16, x17, x18, x19, x20, x21, x22, x23, x24, x25, x26, x27, x28, x29, x30, x31, x32, x33, x34, x35, x36, x37, x38, x39, x40, x41, x42, x43, x44, x45, x46, x47, x48, x49, x50, x51, x52, x53, x54, x55, x56, x57, x58, x59, x60, x61, x62, x63, x64, x65, x66, x67, x68, x69, x70, x71, x72, x73, x74, x75, x76, x77, x78, x79, x80, x81, x82, x83, x84, x85, x86, x87, x88, x89, x90, x91, x92, x93, x94, x95, x96, x97, x98, x99, x100, x101, x102, x103, x104, x105, x106, x107, x108, x109, x110, x111, x112, x113, x114, x115, x116, x117, x118, x119, x120, x121, x122, x123, x124, x125, x126, x127, x128, x129, x130, x131, x132, x133, x134, x135], []⟩ wi := by
  conv => arg 2; whnf
  have HST0 := Lib.hid hst0
  have HST := Lib.hid hst
  have HNX := Lib.hid next_any
  have HK := Lib.hid hk
  have HON := Lib.hid hone
  have HTS := Lib.hid hts
  have HV := Lib.hid hv
  have HQ0 := Lib.hid hq
  have HBK := Lib.hid hbk
  have hw0i : w0.heap.size ≤ wi.heap.size := hq.size
  have hpi : hp < wi.heap.size := hbk.lt
  have hps : hp ≠ s := by obtain ⟨cs, h⟩ := hst.bk; exact Bk.ne_ hbk h (by decide)
  obtain ⟨i4, hi4, hz40, hz41, hz42⟩ := info_parts T.info46
  clear hst0 hst hk hone hts hv hq hbk
  go_wp2_with fail
  (with_reducible refine (HNX.out s B 3 _ HST.out hB (by omega) (by omega)).mono ?_)
  rintro e w1 ⟨v, rfl, hv0, hv1, hst1, hg1⟩
  obtain ⟨v, rfl⟩ : ∃ z : Nat, v = z := ⟨v.toNat, by omega⟩
  have HQ1 : Hid (Fq [s] w0 w1) := Lib.hid (HQ0.out.grown hg1 fun g hg => .inl (by injection hg with hg; simp [hg]))
  have HX1 : Hid (Kx 0 [189, 43, 46] wi w1) := Lib.hid ((Kx.fq (B' := 0) ((Fq.refl (F := [s])).grown hg1 fun g hg => .inl (by injection hg with hg; simp [hg])) HST.out (Nat.zero_le _)).mono (Nat.le_refl _) (by decide))
  have HB1 : Hid (Bk w1 hp 43 #[.slice CA q cc, .slice none 0 0]) := Lib.hid (HBK.out.grown hg1 (fun e => by injection e with e; exact hps e))
  have HS1 := Lib.hid hst1
  clear hst1 hg1 HBK HQ0 HST
  have hv3 : v < 3 := by omega
  go_wp2_with fail
  go_loopw [69] (fun iv wr => ∃ (j pc : Nat) (PA : Option Addr) (pts : List Pt), j ≤ v ∧ iv = .int .i64 j ∧ Hid (Bk wr hp 43 #[.slice CA q cc, .slice PA j pc]) ∧ Hid (PartsI w0 wr ks ts PA j pc pts) ∧ Hid (StrSt wr B s) ∧ Hid (Fq [s] w0 wr) ∧ Hid (Kx 0 [189, 43, 46] wi wr)) (fun iv _ => v - (intOf iv).toNat)
  case atStart => exact ⟨0, 0, none, [], Nat.zero_le _, rfl, HB1, Lib.hid ⟨World.ownsRow_nil _ _ _ _, rfl, (fun z hz => by cases hz), (fun z hz => by cases hz)⟩, HS1, HQ1, HX1⟩
  case round =>
    clear HQ1 HX1 HB1 HS1
    obtain ⟨j, pc, PA, pts, hj, rfl, HPB, HL, HS, HQ, HX⟩ := hrel
    obtain ⟨wo, rfl⟩ : ∃ x, x = wr := ⟨_, rfl⟩
    have HP : Hid (j ≤ 2 ∧ Bk wo hp 43 #[.slice CA q cc, .slice PA j pc] ∧ PartsI w0 wo ks ts PA j pc pts ∧ StrSt wo B s ∧ Fq [s] w0 wo ∧ Kx 0 [189, 43, 46] wi wo) := Lib.hid ⟨by omega, HPB.out, HL.out, HS.out, HQ.out, HX.out⟩
    by_cases hlt : j < v
    · have hjz : (j : Int) < v := by omega
      by_cases hi0 : i = 0
      · subst hi0
        have t0 : (((0 : Nat) : Int) == 0) = true := by decide
        go_wp2_with fail
        exact hN _ _ _ _ _ _ _ _ _ _ _ _ _ _ _ _ _ _ _ _ _ _ _ _ _ _ _ _ _ _ _ _ _ _ _ _ _ _ _ _ _ _ _ _ _ _ _ _ _ _ _ _ _ _ _ _ _ _ _ _ _ _ _ _ _ _ PA j pc pts wo HP
      · have t0 : ((i : Int) == 0) = false := by simp; omega
        clear HP
        go_upto_region 22 with fail
        go_cut [14] from 73 to 76 (fun s14 wx => s14 = .pointer (some ⟨wx.heap.size - 1, 0, none⟩) ∧ ∃ d : Nat, d < i ∧ Hid (Bk wx (wx.heap.size - 1) 46 #[.int .i64 (d : Int), .slice none 0 0] ∧ StrSt wx B s ∧ Fq [s] wo wx ∧ wo.heap.size < wx.heap.size))
        case first =>
          go_wp2_with fail
          (with_reducible refine (HNX.out s B i _ HS.out hB (by omega) (by omega)).mono ?_)
          rintro e w2 ⟨d, rfl, hd0, hd1, hst2, hg2⟩
          obtain ⟨d, rfl⟩ : ∃ z : Nat, d = z := ⟨d.toNat, by omega⟩
          go_wp2_with fail
          go_meet
          case rel =>
            have hb2 : Below w2.heap.size w2 (w2.alloc (.cells #[.int .i64 (d : Int), .slice none 0 0] 46)) := (Below.refl _ _).alloc (Nat.le_refl _) _
            have hsz : (w2.alloc (.cells #[.int .i64 (d : Int), .slice none 0 0] 46)).heap.size - 1 = w2.heap.size := by simp
            rw [hsz]
            refine ⟨rfl, d, by omega, Lib.hid ⟨Bk.new _ _ _, hst2.below hb2 (hst2.lo hB), ((Fq.refl (F := [s])).grown hg2 (fun g hg => .inl (by injection hg with hg; simp [hg]))).alloc _, by have := hg2.size; simp; omega⟩⟩
        case rest =>
          obtain ⟨rfl, d, hdi, HD⟩ := hcut
          obtain ⟨w3, rfl⟩ : ∃ x, x = wc := ⟨_, rfl⟩
          obtain ⟨hx, hhx⟩ : ∃ hx, hx = w3.heap.size - 1 := ⟨_, rfl⟩
          have hxw : wo.heap.size ≤ hx := by have := HD.out.2.2.2; omega
          rw [← hhx] at HD ⊢
          clear hhx
          obtain ⟨u, hu⟩ : ∃ u, ts[d]? = some u := ⟨_, List.getElem?_eq_getElem (by have := HTS.out.len; omega)⟩
          have hkx0 := Kx.fq (B' := 0) HQ.out HST0.out (Nat.zero_le _)
          have HKO := Lib.hid (HK.out.keep hkx0 (by decide) (by decide))
          have HTO := Lib.hid (HTS.out.keep hkx0 (by decide) (by decide) (by decide) (by decide) (by decide))
          have HU := Lib.hid hu
          clear hu hkx0
          go_step
          go_step
          refine pfOver_any HS.out HD.out.2.1 hB HKO.out HON.out HTO.out hdi HU.out (HV.out u (List.mem_of_getElem? HU.out)) HD.out.2.2.1 hxw HD.out.1 ?_
          intros
          rename_i oA on oc2 ovs w4 HR
          obtain ⟨w4, rfl⟩ : ∃ x, x = w4 := ⟨_, rfl⟩
          obtain ⟨hbx4, hov4, hgd4, hst4, hq4⟩ := HR.out
          have hkx4 := Kx.fq (B' := 0) hq4 HS.out (Nat.zero_le _)
          have HPB4 : Hid (Bk w4 hp 43 #[.slice CA q cc, .slice PA j pc]) := Lib.hid (hkx4.bk HPB.out (by decide))
          have HOW4 : Hid (w4.ownsRow w0.heap.size 46 2 (.slice PA j pc) j (ptCs pts)) := Lib.hid (hkx4.own HL.out.1 (by decide))
          have HZ4 : Hid (∀ z ∈ pts, PtY w4 0 z) := Lib.hid fun z hz => (HL.out.2.2.1 z hz).keep hkx4 (by decide) (by decide)
          have HOV4 := Lib.hid (And.intro hov4 hgd4)
          have HS4 := Lib.hid hst4
          have HQ4 : Hid (Fq [s] w0 w4) := Lib.hid (HQ.out.trans hq4 (SubF.refl _ _))
          have HX4 : Hid (Kx 0 [189, 43, 46] wi w4) := Lib.hid (HX.out.trans (hkx4.mono (Nat.le_refl _) (by decide)))
          have p0 : w4.cell? ⟨hp, 1, none⟩ = some (.slice PA j pc) := HPB4.out.cell 1
          have x0 : w4.cell? ⟨hx, 0, none⟩ = some (.int .i64 (d : Int)) := hbx4.cell 0
          have x1 : w4.cell? ⟨hx, 1, none⟩ = some (.slice oA on oc2) := hbx4.cell 1
          have hw04 : w0.heap.size ≤ w4.heap.size := HQ4.out.size
          have hB0 : B ≤ w0.heap.size := HST0.out.lo hB
          clear hbx4 hov4 hgd4 hst4 hq4 hkx4 HR
          go_wp2_with
            (at_builtin
             go_must (refine wpList_append_one _ rfl (.tmp 124) (.tmp 126) _ rfl w0.heap.size 46 i4 (.agg #[.int .i64 0, .slice none 0 0]) 2 32 Try.underlying41 hi4 hz40 hz41 hz42 rfl (by decide) (.slice PA j pc) j (ptCs pts) rfl (HOW4.out.alloc _) w4.heap.size 1 46 #[.int .i64 (d : Int), .slice oA on oc2] rfl (Bk.new w4 _ _) rfl ?c1 (j + 1) rfl ?c2 ?c3 ?c4 ?_)
             case c1 => simp [Value.oneCell']
             case c2 => unfold maxLen; omega
             case c3 => omega
             case c4 => (simp; omega)
             intro g8 c8 w8 hown8 hg8 hat8
             have hp8 := (HPB4.out.alloc (.cells #[.int .i64 (d : Int), .slice oA on oc2] 46)).grown hg8 (fun e => own_ne HOW4.out HPB4.out (by decide) e.symm)
             have p8 : w8.cell? ⟨hp, 1, none⟩ = some (.slice PA j pc) := hp8.cell 1
             have f8 : w8.frozen? ⟨hp, 1, none⟩ = false := hp8.frozen 1)
          have hkx8 : Kx 0 [46] w4 w8 := ((Kx.refl (B := 0)).alloc _).grown (HOW4.out.alloc _) hg8 (Nat.zero_le _) (by simp)
          have hset : Kx 0 [43] w8 (w8.setCell ⟨hp, 1, none⟩ (.slice (some ⟨g8, 0, none⟩) (j + 1) c8)) := Kx.set (B := 0) (F := [43]) Kx.refl hp8 (Nat.zero_le _) (by simp) 1 _
          have hkxB : Kx B [46, 43] w4 (w8.setCell ⟨hp, 1, none⟩ (.slice (some ⟨g8, 0, none⟩) (j + 1) c8)) := (((Kx.refl (B := B)).alloc _).grown (F := [46, 43]) (HOW4.out.alloc _) hg8 (by omega) (by simp)).set hp8 (by omega) (by simp) 1 _
          have HPN : Hid (Bk (w8.setCell ⟨hp, 1, none⟩ (.slice (some ⟨g8, 0, none⟩) (j + 1) c8)) hp 43 #[.slice CA q cc, .slice (some ⟨g8, 0, none⟩) (j + 1) c8]) := Lib.hid (by simpa using hp8.set_ 1 (.slice (some ⟨g8, 0, none⟩) (j + 1) c8))
          have HLN : Hid (PartsI w0 (w8.setCell ⟨hp, 1, none⟩ (.slice (some ⟨g8, 0, none⟩) (j + 1) c8)) ks ts (some ⟨g8, 0, none⟩) (j + 1) c8 (pts ++ [⟨d, oA, on, oc2, ovs⟩])) := Lib.hid (by
            refine ⟨?_, by rw [List.length_append, ← HL.out.2.1]; rfl, fun z hz => ?_, fun z hz => ?_⟩
            · rw [show ptCs (pts ++ [(⟨d, oA, on, oc2, ovs⟩ : Pt)]) = ptCs pts ++ (#[Value.int .i64 (d : Int), .slice oA on oc2] : Array Value).toList by simp [ptCs, Pt.cs]]
              exact hset.own hown8 (by decide)
            · rcases List.mem_append.1 hz with hz | hz
              · exact ((HZ4.out z hz).keep hkx8 (by decide) (by decide)).keep hset (by decide) (by decide)
              · rw [List.mem_singleton.1 hz]
                exact ⟨(HOV4.out.1.keep hkx8 (by decide) (by decide)).keep hset (by decide) (by decide), wf_i64 (by show _ ≤ ((d : Nat) : Int); omega) (by show ((d : Nat) : Int) ≤ _; omega)⟩
            · rcases List.mem_append.1 hz with hz | hz
              · exact HL.out.2.2.2 z hz
              · rw [List.mem_singleton.1 hz]
                exact ⟨d, u, rfl, HU.out, HOV4.out.2⟩)
          have HSN : Hid (StrSt (w8.setCell ⟨hp, 1, none⟩ (.slice (some ⟨g8, 0, none⟩) (j + 1) c8)) B s) := Lib.hid (HS4.out.kx hkxB (Nat.le_refl _) (HS4.out.lo hB) (by decide))
          have HQN : Hid (Fq [s] w0 (w8.setCell ⟨hp, 1, none⟩ (.slice (some ⟨g8, 0, none⟩) (j + 1) c8))) := Lib.hid (((HQ4.out.alloc _).grown hg8 (fun g hg => .inr (HOW4.out.lt g hg).1)).set (.inr hhp) 1 _)
          have HXN : Hid (Kx 0 [189, 43, 46] wi (w8.setCell ⟨hp, 1, none⟩ (.slice (some ⟨g8, 0, none⟩) (j + 1) c8))) := Lib.hid (HX4.out.trans (hkxB.mono (Nat.zero_le _) (by decide)))
          clear hkx8 hset hkxB hown8 hg8 hat8 p0 x0 x1 hp8 p8 f8
          go_wp2_with fail
          go_roundw
          case rel => exact ⟨j + 1, c8, some ⟨g8, 0, none⟩, pts ++ [⟨d, oA, on, oc2, ovs⟩], by omega, by go_num, HPN, HLN, HSN, HQN, HXN⟩
          case measure => simp [intOf]; omega
    · obtain rfl : v = j := by omega
      go_wp2_with fail
      exact hN _ _ _ _ _ _ _ _ _ _ _ _ _ _ _ _ _ _ _ _ _ _ _ _ _ _ _ _ _ _ _ _ _ _ _ _ _ _ _ _ _ _ _ _ _ _ _ _ _ _ _ _ _ _ _ _ _ _ _ _ _ _ _ _ _ _ PA v pc pts wo HP
end Go.Proofs.Ytnidcmhfbkdioaa
