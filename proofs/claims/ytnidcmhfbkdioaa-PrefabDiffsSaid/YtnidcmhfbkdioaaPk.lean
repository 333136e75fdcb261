/-
  The second loop of prefab.build: the parts. Conditions: what is read can be read; the contract of the calls within.
-/
import Derived.Test.YtnidcmhfbkdioaaPj
namespace Go.Proofs.Ytnidcmhfbkdioaa
open Go.RowKit
set_option maxRecDepth 100000

noncomputable def bdParts : Code := (Try.f100.body.bind (findB 10)).getD .skip

set_option maxHeartbeats 6000000 in
theorem bdParts_any {x3 x4 x5 x6 x7 x8 x9 x10 x11 x12 x14 x15 x16 x17 x18 x19 x20 x21 x22 x23 x24 x25 x26 x27 x28 x29 x30 x31 x32 x33 x34 x35 x36 x37 x38 x39 x40 x41 x42 x43 x44 x45 x46 x47 x48 x49 x50 x51 x52 x53 x54 x55 x56 x57 x58 x59 x60 x61 x62 x63 x64 x65 x66 x67 x68 x69 x70 x71 x72 x73 x74 x75 x76 x77 x78 x79 x80 x81 x82 x83 x84 x85 x86 x87 x88 x89 x90 x91 x92 x93 x94 x95 x96 x97 x98 x99 x100 x101 x102 x103 x104 x105 x106 x107 x108 x109 x110 : Value} {Q : Exit → Act → World → Prop} {w wr : World} {B kn kc tn tc m c nn d : Nat} {kA TA A : Option Addr} {ks : List Kd} {ts : List Pf} {t : Pf} {l : List Bt} (ht : PfsOk w B TA tn tc ts) (hn : ts[nn]? = some t) (hb : Below w.heap.size w wr) (hI : Hid (BuI wr w.heap.size ks A m c l)) (hm : m ≤ 200)
    (hrec : Hid (∀ (wz : World) (x : Pt), x ∈ t.pts → Below w.heap.size w wz → Calls Try.prog 100 #[.slice kA kn kc, .slice TA tn tc, .int .i64 x.of_, .slice x.oA x.on x.oc] wz (BldP wz ks (buildF (ks.map Kd.p) (ts.map Pf.p) d x.of_ (x.ovs.map Ov.p))))) (hd : d ≤ 900)
    (hE : ∀ (y14 y15 y16 y17 y19 y51 y52 y53 y54 y55 y56 y57 y58 y59 y60 y61 y62 y63 y64 y65 y66 y67 y68 y69 y70 y71 y72 y73 y74 y75 y76 y77 y78 y79 y80 y81 y82 y83 y84 y85 y86 y87 y88 y89 y90 y91 y92 y93 y94 y95 : Value) (s13 : Value) (e9 : Int) (w' : World), Hid (Below w.heap.size w w' ∧ (partsF (buildF (ks.map Kd.p) (ts.map Pf.p) d) 0 (t.pts.map Pt.p) (l.map Bt.p)).1 ≠ 0 ∧ (partsF (buildF (ks.map Kd.p) (ts.map Pf.p) d) 0 (t.pts.map Pt.p) (l.map Bt.p)).1 = e9) → Q .ret ⟨#[.slice kA kn kc, .slice TA tn tc, .int .i64 nn, x3, x4, x5, x6, x7, .slice none 0 0, .int .i64 e9, x10, x11, x12, s13, y14, y15, y16, y17, x18, y19, x20, x21, x22, x23, x24, x25, x26, x27, x28, x29, x30, x31, x32, x33, x34, x35, x36, x37, x38, x39, x40, x41, x42, x43, x44, x45, x46, x47, x48, x49, x50, y51, y52, y53, y54, y55, y56, y57, y58, y59, y60, y61, y62, y63, y64, y65, y66, y67, y68, y69, y70, y71, y72, y73, y74, y75, y76, y77, y78, y79, y80, y81, y82, y83, y84, y85, y86, y87, y88, y89, y90, y91, y92, y93, y94, y95, x96, x97, x98, x99, x100, x101, x102, x103, x104, x105, x106, x107, x108, x109, x110], []⟩ w')
    (hN : ∀ (y8 y9 y14 y15 y16 y17 y19 y51 y52 y53 y54 y55 y56 y57 y58 y59 y60 y61 y62 y63 y64 y65 y66 y67 y68 y69 y70 y71 y72 y73 y74 y75 y76 y77 y78 y79 y80 y81 y82 y83 y84 y85 y86 y87 y88 y89 y90 y91 y92 y93 y94 y95 : Value) (A' : Option Addr) (m' c' : Nat) (w' : World), Hid (Below w.heap.size w w' ∧ (partsF (buildF (ks.map Kd.p) (ts.map Pf.p) d) 0 (t.pts.map Pt.p) (l.map Bt.p)).1 = 0 ∧ m' ≤ 200 ∧ ∃ l', BuI w' w.heap.size ks A' m' c' l' ∧ l'.map Bt.p = (partsF (buildF (ks.map Kd.p) (ts.map Pf.p) d) 0 (t.pts.map Pt.p) (l.map Bt.p)).2) → Q .normal ⟨#[.slice kA kn kc, .slice TA tn tc, .int .i64 nn, x3, x4, x5, x6, x7, y8, y9, x10, x11, x12, .slice A' m' c', y14, y15, y16, y17, x18, y19, x20, x21, x22, x23, x24, x25, x26, x27, x28, x29, x30, x31, x32, x33, x34, x35, x36, x37, x38, x39, x40, x41, x42, x43, x44, x45, x46, x47, x48, x49, x50, y51, y52, y53, y54, y55, y56, y57, y58, y59, y60, y61, y62, y63, y64, y65, y66, y67, y68, y69, y70, y71, y72, y73, y74, y75, y76, y77, y78, y79, y80, y81, y82, y83, y84, y85, y86, y87, y88, y89, y90, y91, y92, y93, y94, y95, x96, x97, x98, x99, x100, x101, x102, x103, x104, x105, x106, x107, x108, x109, x110], []⟩ w') :
    Code.wp Try.prog bdParts Q ⟨#[.slice kA kn kc, .slice TA tn tc, .int .i64 nn, x3, x4, x5, x6, x7, x8, x9, x10, x11, x12, .slice A m c, x14, x15, x16, x17, x18, x19, x20, x21, x22, x23, x24, x25, x26, x27, x28, x29, x30, x31, x32, x33, x34, x35, x36, x37, x38, x39, x40, x41, x42, x43, x44, x45, x46, x47, x48, x49, x50, x51, x52, x53, x54, x55, x56, x57, x58, x59, x60, x61, x62, x63, x64, x65, x66, x67, x68, x69, x70, x71, x72, x73, x74, x75, x76, x77, x78, x79, x80, x81, x82, x83, x84, x85, x86, x87, x88, x89, x90, x91, x92, x93, x94, x95, x96, x97, x98, x99, x100, x101, x102, x103, x104, x105, x106, x107, x108, x109, x110], []⟩ wr := by
  conv => arg 2; whnf
  obtain ⟨bf, hbf⟩ : ∃ bf, bf = buildF (ks.map Kd.p) (ts.map Pf.p) d := ⟨_, rfl⟩
  rw [← hbf] at hrec hE hN
  obtain ⟨R, hR⟩ : ∃ R, R = partsF bf 0 (t.pts.map Pt.p) (l.map Bt.p) := ⟨_, rfl⟩
  rw [← hR] at hE hN
  have hB := ht.lo
  have hcap := ht.cap
  have hcap2 := ht.cap2
  have hnt : nn < tn := by have := (List.getElem?_eq_some_iff.1 hn).1; have := ht.len; omega
  obtain ⟨tb, tof, rfl, htb, t0, t1⟩ := (ht.below (hb.mono hB)).rd.pf hnt hn
  have hto := ht.ok t (List.mem_of_getElem? hn)
  have hpcap := hto.ts.cap
  have hpcap2 := hto.ts.cap2
  have HTO := Lib.hid hto
  have HBF := Lib.hid hbf
  have HB := Lib.hid hb
  have HR : Hid (R = partsF bf 0 ((t.pts.drop 0).map Pt.p) (l.map Bt.p)) := Lib.hid (by rw [List.drop_zero]; exact hR)
  have hnz : (nn : Int) < tn := by omega
  have hnz0 : (0 : Int) ≤ nn := by omega
  obtain ⟨pn, hpn⟩ : ∃ pn, pn = t.tn := ⟨_, rfl⟩
  obtain ⟨pA, hpA⟩ : ∃ pA, pA = t.tA := ⟨_, rfl⟩
  obtain ⟨pc, hpc⟩ : ∃ pc, pc = t.tc := ⟨_, rfl⟩
  rw [← hpn, ← hpA, ← hpc] at t1
  rw [← hpn, ← hpc] at hpcap
  rw [← hpc] at hpcap2
  have HP3 := Lib.hid (And.intro hpn (And.intro hpA hpc))
  clear ht hn hb hR hto hbf hpn hpA hpc
  go_wp2_with fail
  go_loopw [13, 57] (fun av iv wx => ∃ (i : Nat) (A3 : Option Addr) (m3 c3 : Nat), i ≤ pn ∧ iv = .int .i64 i ∧ av = .slice A3 m3 c3 ∧ m3 ≤ 200 ∧ Hid (∃ l3, BuI wx w.heap.size ks A3 m3 c3 l3 ∧ R = partsF bf i ((t.pts.drop i).map Pt.p) (l3.map Bt.p)) ∧ Hid (Below w.heap.size w wx)) (fun _ iv _ => pn - (intOf iv).toNat)
  case atStart => exact ⟨0, A, m, c, Nat.zero_le _, rfl, rfl, hm, Lib.hid ⟨l, hI.out, HR.out⟩, HB⟩
  case round =>
    clear HR hI HB t0 t1 hm
    obtain ⟨i, A3, m3, c3, hi, rfl, rfl, hm3, HI, HW⟩ := hrel
    obtain ⟨l3, hI3, hR3⟩ := HI.out
    by_cases hlt : i < pn
    · obtain ⟨x, hx⟩ : ∃ x, t.pts[i]? = some x := ⟨_, List.getElem?_eq_getElem (by have := HTO.out.ts.len; have := HP3.out.1; omega)⟩
      have htw := (HTO.out.below (HW.out.mono hB)).ts
      rw [← HP3.out.1, ← HP3.out.2.1] at htw
      obtain ⟨b, o, rfl, hbb, q0, q1⟩ := htw.rd.pt hlt hx
      have hiz : (i : Int) < pn := by omega
      have hiz0 : (0 : Int) ≤ i := by omega
      obtain ⟨W1, hW1⟩ : ∃ W1, W1 = wr.alloc (.cells #[.int .i64 x.of_, .slice x.oA x.on x.oc] 46) := ⟨_, rfl⟩
      have hb1 : Below wr.heap.size wr W1 := by rw [hW1]; exact (Below.refl _ _).alloc (Nat.le_refl _) _
      have hbw1 : Below w.heap.size w W1 := HW.out.trans (hb1.mono HW.out.size)
      have hhh : Bk W1 wr.heap.size 46 #[.int .i64 x.of_, .slice x.oA x.on x.oc] := by rw [hW1]; exact Bk.new _ _ _
      have hcall := hrec.out W1 x (List.mem_of_getElem? hx) hbw1
      obtain ⟨Z, hZ⟩ : ∃ Z, Z = bf x.of_ (x.ovs.map Ov.p) := ⟨_, rfl⟩
      rw [← hZ] at hcall
      have hk1 : Kx 0 [] wr W1 := Kx.of_below hb1
      have hI1 : BuI W1 w.heap.size ks A3 m3 c3 l3 := ⟨hk1.own hI3.own (by simp), hI3.len, hI3.ys.keep hk1 (by simp) (by simp), hI3.kok⟩
      have hRx : R = (if Z.1 ≠ 0 then (Z.1, []) else if 200 < (l3.map Bt.p ++ Z.2.map fun b => ((i : Int) :: b.1, b.2)).length then (2, []) else partsF bf (i + 1) ((t.pts.drop (i + 1)).map Pt.p) (l3.map Bt.p ++ Z.2.map fun b => ((i : Int) :: b.1, b.2))) := by
        rw [hR3, List.drop_eq_getElem_cons (by have := HTO.out.ts.len; have := HP3.out.1; omega), (List.getElem?_eq_some_iff.1 hx).2, List.map_cons, partsF, hZ]; rfl
      have hZb := buildF_both (ks.map Kd.p) (ts.map Pf.p) d x.of_ (x.ovs.map Ov.p)
      rw [← HBF.out, ← hZ] at hZb
      have HCALL := Lib.hid hcall
      have HI1 := Lib.hid hI1
      have HRX := Lib.hid hRx
      have HZB := Lib.hid hZb
      have HBW1 := Lib.hid hbw1
      obtain ⟨hh, hhe⟩ : ∃ hh, hh = wr.heap.size := ⟨_, rfl⟩
      rw [← hhe] at hhh
      have z0 : W1.cell? ⟨hh, 0, none⟩ = some (.int .i64 x.of_) := hhh.cell 0
      have z1 : W1.cell? ⟨hh, 1, none⟩ = some (.slice x.oA x.on x.oc) := hhh.cell 1
      have HW1 := Lib.hid (And.intro hW1 hhe)
      clear hx htw hbb hb1 hbw1 hhh hcall hZ hk1 hI1 hRx hZb hhe hW1 hI3 hR3 HI
      go_upto_region 13 with fail
      rw [← HW1.out.1, ← HW1.out.2]
      clear q0 q1
      go_wp2_with fail
      with_reducible refine (HCALL.out).mono ?_
      clear HCALL z0 z1
      rintro e w4 ⟨hbl4, hor⟩
      have HB4 := Lib.hid hbl4
      have HBW4 : Hid (Below w.heap.size w w4) := Lib.hid (HBW1.out.trans (hbl4.mono HBW1.out.size))
      clear hbl4
      rcases hor with ⟨hz1, rfl⟩ | ⟨hz1, SA, sn, sc, sub, rfl, HSUB⟩
      · have hR1 : R.1 = Z.1 := by rw [HRX.out, if_pos hz1]
        have HP : Hid (Below w.heap.size w w4 ∧ R.1 ≠ 0 ∧ R.1 = Z.1) := Lib.hid ⟨HBW4.out, by rw [hR1]; exact hz1, hR1⟩
        have HR1 := Lib.hid hR1
        clear hR1
        go_wp2_with fail
        exact HP
      · have hsb := HSUB.out.1
        have hsl : sn ≤ 200 := by have h1 := hsb.len; have h2 := HZB.out.1; rw [← HSUB.out.2, List.length_map] at h2; omega
        have hyy : BsY w4 w.heap.size (l3 ++ sub) := HI1.out.ys.app HB4.out hsb.ys HBW1.out.size
        have hk14 : Kx 0 [] W1 w4 := Kx.of_below HB4.out
        have ho4 := hk14.own HI1.out.own (by simp)
        have HY := Lib.hid hyy
        have HO := Lib.hid (And.intro ho4 HI1.out.len)
        have HS := Lib.hid (And.intro hsb.own hsb.len)
        have HNE : Hid (∀ q, (Value.slice SA sn sc).ownBlock = some q → (Value.slice A3 m3 c3).ownBlock ≠ some q) := Lib.hid fun q hq e => by
          have h1 := (hsb.own.lt q hq).1
          have h2 := (HI1.out.own.lt q e).2
          omega
        have HPL : Hid (∀ y ∈ sub, y.pn ≤ 1000) := Lib.hid fun y hy => by
          have h1 := HZB.out.2 (Bt.p y) (by rw [← HSUB.out.2]; exact List.mem_map_of_mem hy)
          have h2 := (hsb.ys.ok y hy).len
          have h3 : (Bt.p y).1.length = y.path.length := rfl
          omega
        have HKK : Hid (KOkB ks sub) := Lib.hid hsb.kok
        have HZ1 := Lib.hid hz1
        clear hsb hyy hk14 ho4 hz1
        go_upto_if 73 with fail
        go_step
        go_step
        go_step
        go_step
        go_step
        go_cut [13] from 75 to 91 (fun av wx => ∃ (A' : Option Addr) (c' : Nat), av = .slice A' (m3 + sn) c' ∧ Hid (Below w.heap.size w wx ∧ ∃ l4, SuI wx w.heap.size i sn m3 A' c' l3 sub l4 ∧ BsY wx w.heap.size l4))
        case first =>
          refine bdSub_any (base := w.heap.size) (H := W1.heap.size) rfl HBW4.out HO HS HNE HY (by omega) HPL ?_
          intros
          rename_i hD
          go_wp2_with fail
          go_meet
          case rel => exact ⟨_, _, rfl, hD⟩
        case rest =>
          obtain ⟨A', c', rfl, HD⟩ := hcut
          obtain ⟨w5, rfl⟩ : ∃ q, q = wc := ⟨_, rfl⟩
          obtain ⟨hbl5, l4, hS4, hY4⟩ := HD.out
          have hp4 : l4.map Bt.p = l3.map Bt.p ++ Z.2.map fun b => ((i : Int) :: b.1, b.2) := by
            rw [hS4.p, List.take_of_length_le (by rw [← HS.out.2]; exact Nat.le_refl _), ← HSUB.out.2, List.map_map]; rfl
          have hlen4 : (l3.map Bt.p ++ Z.2.map fun b => ((i : Int) :: b.1, b.2)).length = m3 + sn := by rw [← hp4, List.length_map]; exact hS4.len
          have hkk : KOkB ks l4 := fun y hy cm hcm => by
            obtain ⟨j, hj, e⟩ := List.getElem_of_mem hy
            obtain ⟨y0, e1, _, _, e4⟩ := hS4.of_ j y (by rw [List.getElem?_eq_getElem hj, e])
            rw [e4] at hcm
            rcases List.mem_append.1 (List.mem_of_getElem? e1) with h | h
            · exact HI1.out.kok y0 h cm hcm
            · exact HKK.out y0 h cm hcm
          have hI4 : BuI w5 w.heap.size ks A' (m3 + sn) c' l4 := ⟨hS4.own, hS4.len.symm, hY4, hkk⟩
          by_cases h200 : 200 < m3 + sn
          · have hR1 : R.1 = 2 := by rw [HRX.out, if_neg (by rw [HZ1.out]; simp), if_pos (by rw [hlen4]; exact h200)]
            have HP : Hid (Below w.heap.size w w5 ∧ R.1 ≠ 0 ∧ R.1 = 2) := Lib.hid ⟨hbl5, by rw [hR1]; decide, hR1⟩
            have HR1 := Lib.hid hR1
            have h2z : (200 : Int) < (m3 : Int) + sn := by omega
            clear hR1 hbl5 hS4 hY4 hp4 hlen4 hkk hI4
            go_wp2_with fail
            exact HP
          · have hRn : R = partsF bf (i + 1) ((t.pts.drop (i + 1)).map Pt.p) (l4.map Bt.p) := by rw [HRX.out, if_neg (by rw [HZ1.out]; simp), if_neg (by rw [hlen4]; exact h200), hp4]
            have HP : Hid (∃ l', BuI w5 w.heap.size ks A' (m3 + sn) c' l' ∧ R = partsF bf (i + 1) ((t.pts.drop (i + 1)).map Pt.p) (l'.map Bt.p)) := Lib.hid ⟨l4, hI4, hRn⟩
            have HBL5 := Lib.hid hbl5
            have h2z : ¬ ((200 : Int) < (m3 : Int) + sn) := by omega
            clear hbl5 hS4 hY4 hp4 hlen4 hkk hI4 hRn
            go_wp2_with fail
            go_roundw
            case measure => simp [intOf]; omega
            case rel => exact ⟨i + 1, A', m3 + sn, c', hlt, by go_num, rfl, by omega, HP, HBL5⟩
    · obtain rfl : i = pn := by omega
      have hRe : R = (0, l3.map Bt.p) := by rw [hR3, List.drop_of_length_le (by rw [← HTO.out.ts.len, ← HP3.out.1]; exact Nat.le_refl _)]; rfl
      have HP : Hid (Below w.heap.size w wr ∧ R.1 = 0 ∧ m3 ≤ 200 ∧ ∃ l', BuI wr w.heap.size ks A3 m3 c3 l' ∧ l'.map Bt.p = R.2) := Lib.hid ⟨HW.out, by rw [hRe], hm3, l3, hI3, by rw [hRe]⟩
      clear hRe hI3 hR3
      go_wp2_with fail
      exact hN _ _ _ _ _ _ _ _ _ _ _ _ _ _ _ _ _ _ _ _ _ _ _ _ _ _ _ _ _ _ _ _ _ _ _ _ _ _ _ _ _ _ _ _ _ _ _ _ _ _ _ _ A3 m3 c3 _ HP
end Go.Proofs.Ytnidcmhfbkdioaa
