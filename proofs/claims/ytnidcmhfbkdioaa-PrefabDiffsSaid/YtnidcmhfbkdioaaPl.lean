/-
  The first loop of prefab.build: the components. Conditions: what is read can be read.
-/
import Derived.Deep.RegionHeld3
import Derived.Test.YtnidcmhfbkdioaaPk
import Derived.Test.YtnidcmhfbkdioaaMk
import Derived.Test.YtnidcmhfbkdioaaMj
namespace Go.Proofs.Ytnidcmhfbkdioaa
open Go.RowKit
set_option maxRecDepth 100000

noncomputable def bdComps : Code := (Try.f100.body.bind (findB 4)).getD .skip
theorem own_farP {w : World} {base size n g : Nat} {e t : TypeId} {v : Value} {xs : List Value} {cs : Array Value} (h : w.ownsRow base e size v n xs) (hg : Bk w g t cs) (hne : e ≠ t) (i : Nat) (u : Value) :
    (w.setCell ⟨g, i, none⟩ u).ownsRow base e size v n xs :=
  (Kx.set (B := 0) (F := [t]) Kx.refl hg (Nat.zero_le _) (by simp) i u).own h (by simp [hne])

set_option maxHeartbeats 4000000 in
theorem bdComps_any {x0 x3 x4 x5 x6 x7 x8 x9 x11 x12 x13 x14 x15 x16 x17 x18 x19 x20 x21 x22 x23 x24 x25 x26 x27 x28 x29 x30 x31 x32 x33 x34 x35 x36 x37 x38 x39 x40 x41 x42 x43 x44 x45 x46 x47 x48 x49 x50 x51 x52 x53 x54 x55 x56 x57 x58 x59 x60 x61 x62 x63 x64 x65 x66 x67 x68 x69 x70 x71 x72 x73 x74 x75 x76 x77 x78 x79 x80 x81 x82 x83 x84 x85 x86 x87 x88 x89 x90 x91 x92 x93 x94 x95 x96 x97 x98 x99 x100 x101 x102 x103 x104 x105 x106 x107 x108 x109 x110 : Value} {Q : Exit → Act → World → Prop} {w wr : World} {B tn tc nn hO : Nat} {TA : Option Addr} {ts : List Pf} {t : Pf} (ht : PfsOk w B TA tn tc ts) (hn : ts[nn]? = some t) (hb : Below w.heap.size w wr) (hO0 : w.heap.size ≤ hO) (hO1 : Hid (Bk wr hO 40 #[.slice none 0 0, .slice none 0 0])) (hsz : t.cn ≤ 1000) (hszc : Hid (∀ cm ∈ t.cms, cm.n ≤ 1048576))
    (hN : ∀ (y12 y27 y28 y29 y30 y31 y32 y33 y34 y35 y36 y37 y38 y39 y40 y41 y42 y43 y44 y45 y46 y47 y48 : Value) (w' : World), Hid (Below w.heap.size w w' ∧ ∃ (OA : Option Addr) (oc : Nat) (l1 : List Cm), Bk w' hO 40 #[.slice none 0 0, .slice OA t.cn oc] ∧ w'.ownsRow w.heap.size 166 2 (.slice OA t.cn oc) t.cn (cmCs l1) ∧ l1.map Cm.p = t.cms.map Cm.p ∧ l1.map Cm.n = t.cms.map Cm.n ∧ (∀ z ∈ l1, CmY w' 0 z)) → Q .normal ⟨#[x0, .slice TA tn tc, .int .i64 nn, x3, x4, x5, x6, x7, x8, x9, .pointer (some ⟨hO, 0, none⟩), x11, y12, x13, x14, x15, x16, x17, x18, x19, x20, x21, x22, x23, x24, x25, x26, y27, y28, y29, y30, y31, y32, y33, y34, y35, y36, y37, y38, y39, y40, y41, y42, y43, y44, y45, y46, y47, y48, x49, x50, x51, x52, x53, x54, x55, x56, x57, x58, x59, x60, x61, x62, x63, x64, x65, x66, x67, x68, x69, x70, x71, x72, x73, x74, x75, x76, x77, x78, x79, x80, x81, x82, x83, x84, x85, x86, x87, x88, x89, x90, x91, x92, x93, x94, x95, x96, x97, x98, x99, x100, x101, x102, x103, x104, x105, x106, x107, x108, x109, x110], []⟩ w') :
    Code.wp Try.prog bdComps Q ⟨#[x0, .slice TA tn tc, .int .i64 nn, x3, x4, x5, x6, x7, x8, x9, .pointer (some ⟨hO, 0, none⟩), x11, x12, x13, x14, x15, x16, x17, x18, x19, x20, x21, x22, x23, x24, x25, x26, x27, x28, x29, x30, x31, x32, x33, x34, x35, x36, x37, x38, x39, x40, x41, x42, x43, x44, x45, x46, x47, x48, x49, x50, x51, x52, x53, x54, x55, x56, x57, x58, x59, x60, x61, x62, x63, x64, x65, x66, x67, x68, x69, x70, x71, x72, x73, x74, x75, x76, x77, x78, x79, x80, x81, x82, x83, x84, x85, x86, x87, x88, x89, x90, x91, x92, x93, x94, x95, x96, x97, x98, x99, x100, x101, x102, x103, x104, x105, x106, x107, x108, x109, x110], []⟩ wr := by
  conv => arg 2; whnf
  obtain ⟨i1, hi1, hz10, hz11, hz12⟩ := info_parts T.infoCm
  have hB := ht.lo
  have hcap := ht.cap
  have hcap2 := ht.cap2
  have hnt : nn < tn := by have := (List.getElem?_eq_some_iff.1 hn).1; have := ht.len; omega
  obtain ⟨tb, tof, rfl, htb, t0, t1⟩ := (ht.below (hb.mono hB)).rd.pf hnt hn
  have hto := ht.ok t (List.mem_of_getElem? hn)
  have hpcap := hto.cs.cap
  have hpcap2 := hto.cs.cap2
  have HTO := Lib.hid hto
  have HB := Lib.hid hb
  have hnz : (nn : Int) < tn := by omega
  have hnz0 : (0 : Int) ≤ nn := by omega
  obtain ⟨pn, hpn⟩ : ∃ pn, pn = t.cn := ⟨_, rfl⟩
  obtain ⟨pA, hpA⟩ : ∃ pA, pA = t.cA := ⟨_, rfl⟩
  obtain ⟨pc, hpc⟩ : ∃ pc, pc = t.cc := ⟨_, rfl⟩
  rw [← hpn, ← hpA, ← hpc] at t0
  rw [← hpn, ← hpc] at hpcap
  rw [← hpc] at hpcap2
  rw [← hpn] at hN hsz
  have HP3 := Lib.hid (And.intro hpn (And.intro hpA hpc))
  clear ht hn hb hto hpn hpA hpc
  go_wp2_with fail
  go_loopw [33] (fun iv wx => ∃ (i : Nat), i ≤ pn ∧ iv = .int .i64 i ∧ Hid (Below w.heap.size w wx ∧ ∃ (OA : Option Addr) (oc : Nat) (l1 : List Cm), Bk wx hO 40 #[.slice none 0 0, .slice OA i oc] ∧ wx.ownsRow w.heap.size 166 2 (.slice OA i oc) i (cmCs l1) ∧ l1.map Cm.p = (t.cms.take i).map Cm.p ∧ l1.map Cm.n = (t.cms.take i).map Cm.n ∧ (∀ z ∈ l1, CmY wx 0 z))) (fun iv _ => pn - (intOf iv).toNat)
  case atStart => exact ⟨0, Nat.zero_le _, rfl, Lib.hid ⟨HB.out, none, 0, [], hO1.out, World.ownsRow_nil _ _ _ _, rfl, rfl, (fun z hz => by cases hz)⟩⟩
  case round =>
    clear HB t0 t1 hO1
    obtain ⟨i, hi, rfl, HI⟩ := hrel
    obtain ⟨hbw, OA, oc, l1, hbk, hown, hp, hpl, hok⟩ := HI.out
    by_cases hlt : i < pn
    · obtain ⟨x, hx⟩ : ∃ x, t.cms[i]? = some x := ⟨_, List.getElem?_eq_getElem (by have := HTO.out.cs.len; have := HP3.out.1; omega)⟩
      have htw := (HTO.out.below (hbw.mono hB)).cs
      rw [← HP3.out.1, ← HP3.out.2.1] at htw
      obtain ⟨b, o, rfl, hbb, q0, q1⟩ := htw.rd.cm hlt hx
      have hxo := htw.ok x (List.mem_of_getElem? hx)
      have hxs := hszc.out x (List.mem_of_getElem? hx)
      have hiz : (i : Int) < pn := by omega
      have hiz0 : (0 : Int) ≤ i := by omega
      have hbz := hbw.size
      have hcl := fun wx (hb : Below B wr wx) (hB : B ≤ wx.heap.size) => cloneInts_any x.A x.n x.c B (x.vals.map (Value.int .i64)) wx (hxo.rd.below hb) (by intro u hu; obtain ⟨z, _, rfl⟩ := List.mem_map.1 hu; rfl) hB (by omega)
      have HCL := Lib.hid hcl
      have HX := Lib.hid (And.intro hx hxo)
      have HL := Lib.hid (And.intro hp (And.intro hpl hok))
      clear hx htw hcl hp hpl hok
      generalize hxk : x.k = xk at *
      generalize hxA : x.A = xA at *
      generalize hxn : x.n = xn at *
      generalize hxc : x.c = xc at *
      have HXV := Lib.hid (And.intro hxk (And.intro hxA (And.intro hxn hxc)))
      clear hxk hxA hxn hxc
      have hb1 := (Below.refl wr.heap.size wr).alloc (Nat.le_refl _) (.cells #[.int .i64 xk, .slice xA xn xc] 166)
      have hh1 := Bk.new wr 166 #[.int .i64 xk, .slice xA xn xc]
      have hO5 := hbk.below hb1 hbk.lt
      have how5 := own_keepB hown fun g hg => hb1.block g (hown.lt g hg).2
      have hgh : hO < wr.heap.size := hbk.lt
      have hB1 : B ≤ wr.heap.size := by omega
      have hbB := hb1.mono hB1
      obtain ⟨w5, hw5⟩ : ∃ w5, w5 = wr.alloc (.cells #[.int .i64 xk, .slice xA xn xc] 166) := ⟨_, rfl⟩
      rw [← hw5] at hb1 hh1 hO5 how5 hbB
      have HB5 := Lib.hid hb1
      have hw5z : wr.heap.size < w5.heap.size := hh1.lt
      have hB2 : B ≤ w5.drew.heap.size := Nat.le_trans hB1 (Nat.le_of_lt hw5z)
      clear hbk hxo hb1
      go_wp2_with fail
      rw [← hw5]
      clear hw5 q0 q1
      have d1 : w5.cell? ⟨wr.heap.size, 0, none⟩ = some (.int .i64 xk) := hh1.cell 0
      have d2 : w5.cell? ⟨wr.heap.size, 1, none⟩ = some (.slice xA xn xc) := hh1.cell 1
      have d3 : w5.cell? ⟨hO, 1, none⟩ = some (.slice OA i oc) := hO5.cell 1
      have HH5 := Lib.hid hh1
      have HO5 := Lib.hid hO5
      have HW5 := Lib.hid how5
      have HBB := Lib.hid hbB
      have HOW := Lib.hid hown
      clear hh1 hO5 how5 hbB hown
      refine wp_region_noPanic ?_
      go_region_law
        (first
          | (go_simp
             go_at_call 103
             (with_reducible refine (HCL.out w5.drew HBB.out.drew hB2).mono ?_)
             rintro e w6 ⟨A6, c6, rfl, hown6, hb6⟩
             have hh6 : Bk w6 wr.heap.size 166 #[.int .i64 xk, .slice xA xn xc] := HH5.out.drew.below hb6 HH5.out.lt
             have hv6 : Bk w6 hO 40 #[.slice none 0 0, .slice OA i oc] := HO5.out.drew.below hb6 HO5.out.lt
             have g1 : w6.cell? ⟨wr.heap.size, 0, none⟩ = some (.int .i64 xk) := hh6.cell 0
             have g2 : w6.cell? ⟨wr.heap.size, 1, none⟩ = some (.slice xA xn xc) := hh6.cell 1
             have g3 : w6.cell? ⟨hO, 1, none⟩ = some (.slice OA i oc) := hv6.cell 1
             have g4 : (w6.alloc (.cells #[.int .i64 xk, .slice A6 xn c6] 166)).cell? ⟨hO, 1, none⟩ = some (.slice OA i oc) := (hv6.alloc _).cell 1
             have how6 : w6.ownsRow w.heap.size 166 2 (.slice OA i oc) i (cmCs l1) := own_keepB HW5.out fun g hg => hb6.block g (HW5.out.lt g hg).2)
          | (refine step_append_one rfl (.tmp 38) (.tmp 45) 38 rfl w.heap.size 166 i1 (.agg #[.int .i64 0, .slice none 0 0]) 2 32 Try.underlying38 hi1 hz10 hz11 hz12 rfl (by decide) (.slice OA i oc) i (cmCs l1) rfl (World.ownsRow.alloc (w := w6) how6 _) w6.heap.size 1 166 #[.int .i64 xk, .slice A6 xn c6] rfl (Bk.new w6 _ _) rfl ?c1 (i + 1) rfl ?c2 ?c3 ?c4 ?_
             case c1 => simp [Value.oneCell']
             case c2 => unfold maxLen; omega
             case c3 => omega
             case c4 => (have := hb6.size; simp at this; simp; omega)
             intro g7 c7 w7 hown7 hg7 hat7
             have hv7 := (hv6.alloc (.cells #[.int .i64 xk, .slice A6 xn c6] 166)).grown hg7 (fun e => own_ne how6 hv6 (by decide) e.symm)
             have e3 : w7.cell? ⟨hO, 1, none⟩ = some (.slice OA i oc) := hv7.cell 1
             have f3 : w7.frozen? ⟨hO, 1, none⟩ = false := hv7.frozen 1))
      all_goals
        refine NoPanic.normal ?_
        have hb56 : Below w5.heap.size w5 w6 := ⟨hb6.os, hb6.tape, hb6.output, hb6.size, hb6.block⟩
        have hk1 : Kx 0 [] wr w6 := (Kx.refl.below HB5.out).below hb56
        have hk2 : Kx 0 [40, 166] w6 (w7.setCell ⟨hO, 1, none⟩ (.slice (some ⟨g7, 0, none⟩) (i + 1) c7)) := ((((Kx.refl (B := 0)).alloc _).grown (World.ownsRow.alloc (w := w6) how6 _) hg7 (Nat.zero_le _) (by simp)).set hv7 (Nat.zero_le _) (by simp) 1 _)
        have hyy : CmY (w7.setCell ⟨hO, 1, none⟩ (.slice (some ⟨g7, 0, none⟩) (i + 1) c7)) 0 ⟨xk, A6, xn, c6, x.vals⟩ := by
          have hcp := own_cap2 hown6
          refine ⟨(RdY.of_own hown6).keep hk2 (by decide), ?_, hcp.1, hcp.2, ?_⟩
          · have h := HX.out.2.len; rw [HXV.out.2.2.1] at h; exact h
          · have h := HX.out.2.wf; rw [HXV.out.1] at h; exact h
        have hL : Hid (Below w.heap.size w (w7.setCell ⟨hO, 1, none⟩ (.slice (some ⟨g7, 0, none⟩) (i + 1) c7)) ∧ ∃ (OA : Option Addr) (oc : Nat) (l2 : List Cm), Bk (w7.setCell ⟨hO, 1, none⟩ (.slice (some ⟨g7, 0, none⟩) (i + 1) c7)) hO 40 #[.slice none 0 0, .slice OA (i + 1) oc] ∧ (w7.setCell ⟨hO, 1, none⟩ (.slice (some ⟨g7, 0, none⟩) (i + 1) c7)).ownsRow w.heap.size 166 2 (.slice OA (i + 1) oc) (i + 1) (cmCs l2) ∧ l2.map Cm.p = (t.cms.take (i + 1)).map Cm.p ∧ l2.map Cm.n = (t.cms.take (i + 1)).map Cm.n ∧ (∀ z ∈ l2, CmY (w7.setCell ⟨hO, 1, none⟩ (.slice (some ⟨g7, 0, none⟩) (i + 1) c7)) 0 z)) := Lib.hid (by
          refine ⟨?_, some ⟨g7, 0, none⟩, c7, l1 ++ [⟨xk, A6, xn, c6, x.vals⟩], by simpa using hv7.set_ 1 (.slice (some ⟨g7, 0, none⟩) (i + 1) c7), ?_, ?_, ?_, fun z hz => ?_⟩
          · exact ((((hbw.trans (HB5.out.mono hbz)).trans (hb56.mono (by omega))).alloc (by have := hb6.size; simp at this; omega) _).grown hg7 (by have := hb6.size; simp at this; simp; omega) (fun g hg => (how6.lt g hg).1)).setCell (p := ⟨hO, 1, none⟩) hO0 _
          · rw [show cmCs (l1 ++ [(⟨xk, A6, xn, c6, x.vals⟩ : Cm)]) = cmCs l1 ++ (#[Value.int .i64 xk, .slice A6 xn c6] : Array Value).toList by simp [cmCs, Cm.cs]]
            exact own_farP hown7 hv7 (by decide) 1 _
          · rw [List.take_add_one, HX.out.1, List.map_append, HL.out.1, List.map_append, ← HXV.out.1]; rfl
          · rw [List.take_add_one, HX.out.1, List.map_append, HL.out.2.1, List.map_append, ← HXV.out.2.2.1]; rfl
          · rcases List.mem_append.1 hz with hz | hz
            · exact ((HL.out.2.2 z hz).keep hk1 (by simp)).keep hk2 (by decide)
            · rw [List.mem_singleton.1 hz]; exact hyy)
        clear hb56 hk1 hk2 hyy hown7 hg7 hat7 hv7 e3 f3 how6 g1 g2 g3 g4 hh6 hv6 hown6 hb6 d1 d2 d3
        go_wp2_with fail
        go_roundw
        case rel => exact ⟨i + 1, by omega, by go_num, hL⟩
        case measure => simp [intOf]; omega
    · obtain rfl : i = pn := by omega
      have HP : Hid (Below w.heap.size w wr ∧ ∃ (OA : Option Addr) (oc : Nat) (l1 : List Cm), Bk wr hO 40 #[.slice none 0 0, .slice OA i oc] ∧ wr.ownsRow w.heap.size 166 2 (.slice OA i oc) i (cmCs l1) ∧ l1.map Cm.p = t.cms.map Cm.p ∧ l1.map Cm.n = t.cms.map Cm.n ∧ (∀ z ∈ l1, CmY wr 0 z)) := Lib.hid ⟨hbw, OA, oc, l1, hbk, hown, by
        rw [hp, List.take_of_length_le (by rw [← HTO.out.cs.len, ← HP3.out.1]; exact Nat.le_refl _)], by rw [hpl, List.take_of_length_le (by rw [← HTO.out.cs.len, ← HP3.out.1]; exact Nat.le_refl _)], hok⟩
      clear hbw hbk hown hp hpl hok
      go_wp2_with fail
      exact HP
end Go.Proofs.Ytnidcmhfbkdioaa
