/-
  The contracts of prefab.Check and prefab.Build at valid templates. Conditions: what is read can be read.
-/
import Derived.Test.YtnidcmhfbkdioaaPm
namespace Go.Proofs.Ytnidcmhfbkdioaa
open Go.RowKit
set_option maxRecDepth 100000

/-- Valid templates: what prefab.Check asks. -/
structure TplV (ks : List Kd) (ts : List Pf) : Prop where
  tp : TplOk ks ts
  ck : checkF (ks.map Kd.p) = 0
  len : ts.length ≤ 20
  comps : ∀ t ∈ ts, pcompF (ks.map Kd.p) none (t.cms.map Cm.p) = 0
  parts : ∀ t ∈ ts, t.tn ≤ 8
  blt : ∀ t ∈ ts, ∀ x ∈ t.pts, (buildF (ks.map Kd.p) (ts.map Pf.p) 20 x.of_ (x.ovs.map Ov.p)).1 = 0

set_option maxHeartbeats 4000000 in
theorem pfcheck_any {w : World} {B kn kc tn tc : Nat} {kA TA : Option Addr} {ks : List Kd} {ts : List Pf} (hk : KsOk w B kA kn kc ks) (ht : PfsOk w B TA tn tc ts) (hv : TplV ks ts) :
    Calls Try.prog 99 #[.slice kA kn kc, .slice TA tn tc] w fun e w' => e = .returned (.int .i64 0) ∧ Below w.heap.size w w' := by
  have hck := check_any kA kn kc B ks w hk.rd hk.len hk.cap hk.cap2 hk.ok hk.lo
  rw [hv.ck] at hck
  have HCK := Lib.hid hck
  have HK := Lib.hid hk
  have HT := Lib.hid ht
  have HV := Lib.hid hv
  have hcap := ht.cap
  have hcap2 := ht.cap2
  have hB := hk.lo
  have ht20 : tn ≤ 20 := by rw [ht.len]; exact hv.len
  have ht20z : ¬ ((20 : Int) < tn) := by omega
  clear hck hk ht hv
  go_enter Try.func99, Try.ntmps99
  go_wp2_with fail
  (with_reducible refine HCK.out.mono ?_)
  rintro e w1 ⟨rfl, hb1⟩
  have HB1 := Lib.hid hb1
  clear hb1 HCK
  go_wp2_with fail
  go_loopw [23] (fun iv wx => ∃ i : Nat, i ≤ tn ∧ iv = .int .i64 i ∧ Hid (Below w.heap.size w wx)) (fun iv _ => tn - (intOf iv).toNat)
  case atStart => exact ⟨0, Nat.zero_le _, rfl, HB1⟩
  case round =>
    clear HB1
    obtain ⟨i, hi, rfl, HW⟩ := hrel
    by_cases hlt : i < tn
    · obtain ⟨t, hn⟩ : ∃ t, ts[i]? = some t := ⟨_, List.getElem?_eq_getElem (by have := HT.out.len; omega)⟩
      have htm := List.mem_of_getElem? hn
      have htw := HT.out.below (HW.out.mono hB)
      obtain ⟨b, o, rfl, hbb, q0, q1⟩ := htw.rd.pf hlt hn
      have hiz : (i : Int) < tn := by omega
      have hiz0 : (0 : Int) ≤ i := by omega
      obtain ⟨W1, hW1⟩ : ∃ W1, W1 = wr.alloc (.cells #[.slice t.cA t.cn t.cc, .slice t.tA t.tn t.tc] 43) := ⟨_, rfl⟩
      have hb1 : Below wr.heap.size wr W1 := by rw [hW1]; exact (Below.refl _ _).alloc (Nat.le_refl _) _
      have hbw1 : Below w.heap.size w W1 := HW.out.trans (hb1.mono HW.out.size)
      have hhh : Bk W1 wr.heap.size 43 #[.slice t.cA t.cn t.cc, .slice t.tA t.tn t.tc] := by rw [hW1]; exact Bk.new _ _ _
      have htW := (HT.out.below (hbw1.mono hB)).ok t htm
      have hpc := pcomps_any (HK.out.below (hbw1.mono hB)) htW.cs
      rw [HV.out.comps t htm] at hpc
      have hpn8 := HV.out.parts t htm
      have hpz : ¬ ((8 : Int) < t.tn) := by omega
      have hpcap := htW.ts.cap
      have hpcap2 := htW.ts.cap2
      obtain ⟨hh, hhe⟩ : ∃ hh, hh = wr.heap.size := ⟨_, rfl⟩
      rw [← hhe] at hhh
      have z0 : W1.cell? ⟨hh, 0, none⟩ = some (.slice t.cA t.cn t.cc) := hhh.cell 0
      have HHH := Lib.hid hhh
      have HPC := Lib.hid hpc
      have HBW1 := Lib.hid hbw1
      have HN := Lib.hid (And.intro hn htm)
      have HW1 := Lib.hid (And.intro hW1 hhe)
      clear hn htm htw hbb hb1 hbw1 hhh htW hpc hW1 hhe HW
      generalize hpn : t.tn = pn at *
      generalize hpA : t.tA = pA at *
      generalize hpcc : t.tc = pc at *
      have HPP := Lib.hid (And.intro hpn (And.intro hpA hpcc))
      clear hpn hpA hpcc
      go_upto_region 9 with fail
      rw [← HW1.out.1, ← HW1.out.2]
      clear q0 q1
      go_wp2_with fail
      with_reducible refine (HPC.out).mono ?_
      clear HPC z0
      rintro e w3 ⟨rfl, hb3⟩
      have HB3 : Hid (Below w.heap.size w w3) := Lib.hid (HBW1.out.trans (hb3.mono HBW1.out.size))
      have z1 : w3.cell? ⟨hh, 1, none⟩ = some (.slice pA pn pc) := (HHH.out.below hb3 HHH.out.lt).cell 1
      clear hb3 HBW1 HHH
      go_wp2_with fail
      go_loopw [42] (fun iv wx => ∃ j : Nat, j ≤ pn ∧ iv = .int .i64 j ∧ Hid (Below w.heap.size w wx)) (fun iv _ => pn - (intOf iv).toNat)
      case atStart => exact ⟨0, Nat.zero_le _, rfl, HB3⟩
      case round =>
        clear HB3 z1
        obtain ⟨j, hj, rfl, HW⟩ := hrel
        by_cases hjl : j < pn
        · obtain ⟨x, hx⟩ : ∃ x, t.pts[j]? = some x := ⟨_, List.getElem?_eq_getElem (by have := (HT.out.ok t HN.out.2).ts.len; have := HPP.out.1; omega)⟩
          have htw := ((HT.out.below (HW.out.mono hB)).ok t HN.out.2).ts
          rw [HPP.out.1, HPP.out.2.1] at htw
          obtain ⟨b, o, rfl, hbb, q0, q1⟩ := htw.rd.pt hjl hx
          have hxm := List.mem_of_getElem? hx
          have hjz : (j : Int) < pn := by omega
          have hjz0 : (0 : Int) ≤ j := by omega
          obtain ⟨k, hxk, hki⟩ := HV.out.tp.ps i t HN.out.1 x hxm
          obtain ⟨W1, hW1⟩ : ∃ W1, W1 = wr.alloc (.cells #[.int .i64 x.of_, .slice x.oA x.on x.oc] 46) := ⟨_, rfl⟩
          have hb1 : Below wr.heap.size wr W1 := by rw [hW1]; exact (Below.refl _ _).alloc (Nat.le_refl _) _
          have hbw1 : Below w.heap.size w W1 := HW.out.trans (hb1.mono HW.out.size)
          have hhh : Bk W1 wr.heap.size 46 #[.int .i64 x.of_, .slice x.oA x.on x.oc] := by rw [hW1]; exact Bk.new _ _ _
          have hbl := build_any HK.out HT.out HV.out.tp 20 (by omega) k (by omega) (by omega) W1 x.oA x.on x.oc x.ovs (hbw1.mono hB) ((((HT.out.below (hbw1.mono hB)).ok t HN.out.2).ts.ok x hxm).ov)
          have hz := HV.out.blt t HN.out.2 x hxm
          rw [hxk] at hz hhh hW1
          have hkz : (k : Int) < tn := by omega
          have hkz0 : ¬ ((k : Int) < 0) := by omega
          have hkz1 : ¬ ((tn : Int) ≤ k) := by omega
          have hkz2 : ¬ ((i : Int) ≤ k) := by omega
          rw [hxk] at q0
          obtain ⟨hh, hhe⟩ : ∃ hh, hh = wr.heap.size := ⟨_, rfl⟩
          rw [← hhe] at hhh
          have z0 : W1.cell? ⟨hh, 0, none⟩ = some (.int .i64 k) := hhh.cell 0
          have z1 : W1.cell? ⟨hh, 1, none⟩ = some (.slice x.oA x.on x.oc) := hhh.cell 1
          have HBL := Lib.hid hbl
          have HZ := Lib.hid hz
          have HBW1 := Lib.hid hbw1
          have HW1 := Lib.hid (And.intro hW1 hhe)
          clear hx htw hbb hxm hb1 hbw1 hhh hbl hz hW1 hhe HW hxk
          go_upto_region 17 with fail
          rw [← HW1.out.1, ← HW1.out.2]
          clear q0 q1
          go_wp2_with fail
          with_reducible refine (HBL.out).mono ?_
          clear HBL z0 z1
          rintro e w4 ⟨hbl4, hor⟩
          have HB4 : Hid (Below w.heap.size w w4) := Lib.hid (HBW1.out.trans (hbl4.mono HBW1.out.size))
          rcases hor with ⟨hz1, _⟩ | ⟨_, SA, sn, sc, sub, rfl, _⟩
          · exact absurd HZ.out hz1
          · clear hbl4
            go_wp2_with fail
            go_roundw
            case measure => simp [intOf]; omega
            case rel => exact ⟨j + 1, hjl, by go_num, HB4⟩
        · obtain rfl : j = pn := by omega
          go_wp2_with fail
          go_roundw
          case measure => simp [intOf]; omega
          case rel => exact ⟨i + 1, hlt, by go_num, HW⟩
    · obtain rfl : i = tn := by omega
      go_wp2_with fail
      go_ret
      exact ⟨rfl, HW.out⟩

set_option maxHeartbeats 4000000 in
theorem pfbuild_any {w : World} {B kn kc tn tc nn on oc : Nat} {kA TA oA : Option Addr} {ks : List Kd} {ts : List Pf} {ovs : List Ov} (hk : KsOk w B kA kn kc ks) (ht : PfsOk w B TA tn tc ts) (hv : TplV ks ts) (hn : nn < tn) (ho : OvsOk w B oA on oc ovs) :
    Calls Try.prog 25 #[.slice kA kn kc, .slice TA tn tc, .int .i64 nn, .slice oA on oc] w (BldP w ks (buildF (ks.map Kd.p) (ts.map Pf.p) 20 nn (ovs.map Ov.p))) := by
  have HCK := Lib.hid (pfcheck_any hk ht hv)
  have hcap := ht.cap
  have hcap2 := ht.cap2
  have ht20 : tn ≤ 20 := by rw [ht.len]; exact hv.len
  have HBL := Lib.hid (fun wx hb => build_any hk ht hv.tp 20 (by omega) nn (by omega) hn wx oA on oc ovs hb (ho.below hb))
  have hB := hk.lo
  have hz0 : ¬ ((nn : Int) < 0) := by omega
  have hz1 : ¬ ((tn : Int) ≤ nn) := by omega
  clear hk ht hv ho
  go_enter Try.func25, Try.ntmps25
  go_wp2_with fail
  (with_reducible refine HCK.out.mono ?_)
  rintro e w1 ⟨rfl, hb1⟩
  have HB1 := Lib.hid hb1
  clear hb1 HCK
  go_wp2_with fail
  (with_reducible refine (HBL.out w1 (HB1.out.mono hB)).mono ?_)
  rintro e w2 ⟨hb2, hor⟩
  have HB2 : Hid (Below w.heap.size w w2) := Lib.hid (HB1.out.trans (hb2.mono HB1.out.size))
  have hsz := HB1.out.size
  clear hb2 HBL HB1
  rcases hor with ⟨hz, rfl⟩ | ⟨hz, SA, sn, sc, sub, rfl, HS⟩
  · go_wp2_with fail
    go_ret2
    exact ⟨HB2.out, .inl ⟨hz, rfl⟩⟩
  · go_wp2_with fail
    go_ret2
    exact ⟨HB2.out, .inr ⟨hz, SA, sn, sc, sub, rfl, Lib.hid ⟨⟨own_monoP HS.out.1.own hsz, HS.out.1.len, ⟨fun x hx => (HS.out.1.ys.ok x hx).lower hsz, HS.out.1.ys.dis⟩, HS.out.1.kok⟩, HS.out.2⟩⟩⟩
end Go.Proofs.Ytnidcmhfbkdioaa
