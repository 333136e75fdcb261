/-
  The contract of tourkeep4.Prefabs: drawn templates are valid. Conditions: numbers and valid kinds that can be read.
-/
import Derived.Deep.RegionHeld3
import Derived.Test.YtnidcmhfbkdioaaRa
import Derived.Test.YtnidcmhfbkdioaaPo
namespace Go.Proofs.Ytnidcmhfbkdioaa
open Go.RowKit
set_option maxRecDepth 100000

/-! ### Ps -/
noncomputable def pfOver : Code := (Try.f23.body.bind (findB 23)).getD .skip
theorem T.info158 : (Try.prog.info? 158).map (fun i => (i.zero, i.size, i.bytes)) = some (some (.agg #[.slice none 0 0, .int .i64 0, .int .i64 0, .int .i64 0]), 4, 48) := by kernel_rfl

set_option maxHeartbeats 8000000 in
theorem pfOver_any {x1 x2 x3 x4 x7 x8 x9 x10 x11 x12 x13 x15 x16 x17 x18 x19 x20 x21 x22 x23 x24 x25 x26 x27 x28 x29 x30 x31 x32 x33 x34 x35 x36 x37 x38 x39 x40 x41 x42 x43 x44 x45 x46 x47 x48 x49 x50 x51 x52 x53 x54 x55 x56 x57 x58 x59 x60 x61 x62 x63 x64 x65 x66 x67 x68 x69 x70 x71 x72 x73 x74 x75 x76 x77 x78 x79 x80 x81 x82 x83 x84 x85 x86 x87 x88 x89 x90 x91 x92 x93 x94 x95 x96 x97 x98 x99 x100 x101 x102 x103 x104 x105 x106 x107 x108 x109 x110 x111 x112 x113 x114 x115 x116 x117 x118 x119 x120 x121 x122 x123 x124 x125 x126 x127 x128 x129 x130 x131 x132 x133 x134 x135 : Value} {Q : Exit → Act → World → Prop} {w0 wi : World} {s B hx n c oi oc d : Nat} {A OA : Option Addr} {ks : List Kd} {ts : List Pf} {u : Pf} (hst0 : StrSt w0 B s) (hst : StrSt wi B s) (hB : B ≤ s) (hk : KsY w0 0 A n c ks) (hone : ∀ k ∈ ks, oneF k.nm k.fds = 0) (hts : PfsY w0 0 OA oi oc ts) (hd : d < oi) (hu : ts[d]? = some u) (hv : VCs holdK (ks.map Kd.p) (u.cms.map Cm.p)) (hq : Fq [s] w0 wi) (hhx : w0.heap.size ≤ hx) (hbk : Bk wi hx 46 #[.int .i64 (d : Int), .slice none 0 0])
    (hN : ∀ (y15 y16 y77 y78 y79 y80 y81 y82 y83 y84 y85 y86 y87 y88 y89 y90 y91 y92 y93 y94 y95 y96 y97 y98 y99 y100 y101 y102 y103 y104 y105 y106 y107 y108 y109 y110 y111 y112 y113 y114 y115 y116 y117 y118 y119 y120 y121 y122 : Value) (oA : Option Addr) (on oc2 : Nat) (ovs : List Ov) (w' : World), Hid (Bk w' hx 46 #[.int .i64 (d : Int), .slice oA on oc2] ∧ OvsY w' 0 oA on oc2 ovs ∧ GoodOv (ks.map Kd.p) u.p (ovs.map Ov.p) ∧ StrSt w' B s ∧ Fq [s] w0 w') → Q .normal ⟨#[.slice A n c, x1, x2, x3, x4, .pointer (some ⟨s, 0, none⟩), .slice OA oi oc, x7, x8, x9, x10, x11, x12, x13, .pointer (some ⟨hx, 0, none⟩), y15, y16, x17, x18, x19, x20, x21, x22, x23, x24, x25, x26, x27, x28, x29, x30, x31, x32, x33, x34, x35, x36, x37, x38, x39, x40, x41, x42, x43, x44, x45, x46, x47, x48, x49, x50, x51, x52, x53, x54, x55, x56, x57, x58, x59, x60, x61, x62, x63, x64, x65, x66, x67, x68, x69, x70, x71, x72, x73, x74, x75, x76, y77, y78, y79, y80, y81, y82, y83, y84, y85, y86, y87, y88, y89, y90, y91, y92, y93, y94, y95, y96, y97, y98, y99, y100, y101, y102, y103, y104, y105, y106, y107, y108, y109, y110, y111, y112, y113, y114, y115, y116, y117, y118, y119, y120, y121, y122, x123, x124, x125, x126, x127, x128, x129, x130, x131, x132, x133, x134, x135], []⟩ w') :
    Code.wp Try.prog pfOver Q ⟨#[.slice A n c, x1, x2, x3, x4, .pointer (some ⟨s, 0, none⟩), .slice OA oi oc, x7, x8, x9, x10, x11, x12, x13, .pointer (some ⟨hx, 0, none⟩), x15, x16, x17, x18, x19, x20, x21, x22, x23, x24, x25, x26, x27, x28, x29, x30, x31, x32, x33, x34, x35, x36, x37, x38, x39, x40, x41, x42, x43, x44, x45, x46, x47, x48, x49, x50, x51, x52, x53, x54, x55, x56, x57, x58, x59, x60, x61, x62, x63, x64, x65, x66, x67, x68, x69, x70, x71, x72, x73, x74, x75, x76, x77, x78, x79, x80, x81, x82, x83, x84, x85, x86, x87, x88, x89, x90, x91, x92, x93, x94, x95, x96, x97, x98, x99, x100, x101, x102, x103, x104, x105, x106, x107, x108, x109, x110, x111, x112, x113, x114, x115, x116, x117, x118, x119, x120, x121, x122, x123, x124, x125, x126, x127, x128, x129, x130, x131, x132, x133, x134, x135], []⟩ wi := by
  conv => arg 2; whnf
  have hkx := Kx.fq (B' := 0) hq hst0 (Nat.zero_le _)
  have hty := hts.keep hkx (by decide) (by decide) (by decide) (by decide) (by decide)
  have hky := hk.keep hkx (by decide) (by decide)
  obtain ⟨b, o, rfl, hbb, q0, _⟩ := hty.rd.rd.pf hd hu
  obtain ⟨i5, hi5, hz50, hz51, hz52⟩ := info_parts T.info158
  have hc := (hty.ok u (List.mem_of_getElem? hu)).cs
  have hocap := hty.cap
  have hocap2 := hty.cap2
  have hkcap := hky.cap
  have hkcap2 := hky.cap2
  have e0 : wi.cell? ⟨hx, 0, none⟩ = some (.int .i64 (d : Int)) := hbk.cell 0
  have e1 : wi.cell? ⟨hx, 1, none⟩ = some (.slice none 0 0) := hbk.cell 1
  have hdz : (d : Int) < oi := by omega
  have hdz0 : (0 : Int) ≤ d := by omega
  have HST0 := Lib.hid hst0
  have HST := Lib.hid hst
  have HNX := Lib.hid next_any
  have HKY := Lib.hid hky
  have HON := Lib.hid hone
  have HV := Lib.hid hv
  have HQ := Lib.hid hq
  have HBK := Lib.hid hbk
  have HU := Lib.hid hu
  have hw0i : w0.heap.size ≤ wi.heap.size := hq.size
  have hxi : hx < wi.heap.size := hbk.lt
  have hxs : hx ≠ s := by obtain ⟨cs, h⟩ := hst.bk; exact Bk.ne_ hbk h (by decide)
  have hwB : B ≤ wi.heap.size := hst.lo hB
  have hwB0 : B ≤ w0.heap.size := hst0.lo hB
  have HNO : Hid (Bk wi hx 46 #[.int .i64 (d : Int), .slice none 0 0] ∧ OvsY wi 0 none 0 0 [] ∧ GoodOv (ks.map Kd.p) u.p (([] : List Ov).map Ov.p) ∧ StrSt wi B s ∧ Fq [s] w0 wi) := Lib.hid ⟨hbk, ⟨RdY.nil_ _, rfl, Nat.le_refl _, by decide, (fun x hx => by cases hx)⟩, .inl rfl, hst, hq⟩
  clear hk hone hts hkx hty hst0 hst hv hq hbk hky hbb
  have hccap := hc.cap
  have hccap2 := hc.cap2
  have hclen := hc.len
  generalize hcA : u.cA = cA at *
  generalize hcn : u.cn = cn at *
  generalize hcc : u.cc = cc at *
  have HCV := Lib.hid (And.intro hcA (And.intro hcn hcc))
  clear hcA hcn hcc
  cases hcm : u.cms with
  | nil =>
    rw [hcm] at hclen
    obtain rfl : cn = 0 := hclen
    clear hc hcm
    have t0 : decide ((0 : Int) < ((0 : Nat) : Int)) = false := by decide
    go_wp2_with fail
    exact hN _ _ _ _ _ _ _ _ _ _ _ _ _ _ _ _ _ _ _ _ _ _ _ _ _ _ _ _ _ _ _ _ _ _ _ _ _ _ _ _ _ _ _ _ _ _ _ _ none 0 0 [] wi HNO
  | cons c0 r =>
    rw [hcm] at hc hclen
    have hcn : 0 < cn := by rw [hclen]; exact Nat.succ_pos _
    obtain ⟨b2, o2, rfl, hbb2, r0, r1⟩ := hc.rd.rd.cm (k := 0) hcn (f := c0) rfl
    have hb2x : b2 ≠ s := by
      intro e
      obtain ⟨b9, o9, e9, _, hor, _⟩ := hc.rd.2 hcn
      injection e9 with e9
      injection e9 with e9 _
      rcases hor with hor | ⟨cs, hor⟩
      · omega
      · obtain ⟨cs2, h⟩ := HST.out.bk
        exact Bk.ne_ hor h (by decide) (e9.symm.trans e)
    have hc0 := hc.ok c0 (List.mem_cons_self ..)
    have hvcap := hc0.cap
    have hvcap2 := hc0.cap2
    have hvlen := hc0.len
    have hvl0 := hvlen
    obtain ⟨kk, dk, hk1, hk2, hk3⟩ := HV.out.ok c0.p (by rw [hcm]; exact List.mem_cons_self ..)
    have hk1 : c0.k = kk := hk1
    have hk3 : holdK dk c0.vals = true := hk3
    have t0 : decide ((0 : Int) < (cn : Int)) = true := by simp; omega
    rw [Nat.zero_mul, Nat.add_zero] at r0 r1
    have HCM := Lib.hid hcm
    rw [hk1] at r0
    have HCB : Hid (b2 ≠ s) := Lib.hid hb2x
    clear hc hc0 hbb2 hcm hclen
    generalize hvA : c0.A = vA at *
    generalize hvn : c0.n = vn at *
    have HVN : Hid (vn = c0.vals.length) := Lib.hid hvl0
    clear hvl0
    generalize hvc : c0.c = vc at *
    clear hvA hvn hvc
    by_cases hvn0 : vn = 0
    · subst hvn0
      have t1 : decide ((0 : Int) < ((0 : Nat) : Int)) = false := by decide
      clear hk1 hk2 hk3 hvlen
      go_wp2_with fail
      exact hN _ _ _ _ _ _ _ _ _ _ _ _ _ _ _ _ _ _ _ _ _ _ _ _ _ _ _ _ _ _ _ _ _ _ _ _ _ _ _ _ _ _ _ _ _ _ _ _ none 0 0 [] wi HNO
    · have t1 : decide ((0 : Int) < (vn : Int)) = true := by simp; omega
      obtain ⟨k, hks, hkp⟩ : ∃ k, ks[kk]? = some k ∧ dk = k.p := by
        rw [List.getElem?_map] at hk2
        cases h : ks[kk]? with
        | none => rw [h] at hk2; cases hk2
        | some k => rw [h] at hk2; injection hk2 with hk2; exact ⟨k, rfl, hk2.symm⟩
      have hkn : kk < n := by have := (List.getElem?_eq_some_iff.1 hks).1; have := HKY.out.len; omega
      have hkm := List.mem_of_getElem? hks
      obtain ⟨b3, o3, hA3, hbb3, _, s1⟩ := HKY.out.rd.rd.kd hkn hks
      subst hA3
      have hko := HKY.out.ok k hkm
      have hfl : c0.vals.length = k.fds.length := by have := (holdK_iff.1 hk3).2.1; rw [hkp] at this; exact this
      have hkn0 : 0 < k.n := by have := hko.len; omega
      obtain ⟨f, hf⟩ : ∃ f, k.fds[0]? = some f := ⟨_, List.getElem?_eq_getElem (by omega)⟩
      obtain ⟨b4, o4, hA4, hbb4, f0, f1, f2⟩ := hko.rd.rd.fd hkn0 hf
      have hfok := field_ok (one_ok (HON.out k hkm) (List.mem_of_getElem? hf))
      have hkcap3 := hko.cap
      have hkcap4 := hko.cap2
      have hkz : (kk : Int) < n := by omega
      have hkz0 : (0 : Int) ≤ kk := by omega
      have hknz : (0 : Int) < k.n := by omega
      rw [Nat.zero_mul, Nat.add_zero] at f0 f1 f2
      rw [hA4] at s1
      have HF := Lib.hid (And.intro hf (And.intro hks (And.intro hkp (And.intro hk1 (And.intro hk2 hk3)))))
      clear hk1 hk2 hk3 hks hkp hkm hko hfl hf hbb3 hbb4 hvlen hA4
      generalize hfnm : f.nm = fnm at *
      obtain ⟨bt, hbt⟩ : ∃ bt : Nat, f.bits = bt := ⟨f.bits.toNat, by omega⟩
      generalize hlo : f.low = lo at *
      generalize k.n = kn at *
      generalize k.c = kc at *
      rw [hbt] at f1 hfok
      have p1 := pow2_one bt
      have p2 := pow2_32 bt (by omega)
      obtain ⟨M, hM⟩ : ∃ M, M = (2 : Int) ^ bt := ⟨_, rfl⟩
      rw [← hM] at p1 p2
      have hsh : wrap64 ((2 : Int) ^ bt) = M := by rw [← hM]; exact wrap_small (Int.le_trans (by decide) p1) (Int.le_trans p2 (by decide))
      have hsh2 : IntKind.i64.wrap ((2 : Int) ^ bt) = M := by rw [← hM]; exact wrap_small2 (Int.le_trans (by decide) p1) (Int.le_trans p2 (by decide))
      have HM := Lib.hid hM
      clear hM
      have HP := Lib.hid (And.intro p1 p2)
      have HFV := Lib.hid (And.intro hbt hlo)
      have hb32 : bt ≤ 32 := by omega
      have hb0 : (0 : Int) ≤ bt := by omega
      have hlo1 : -4294967296 ≤ lo := hfok.2.2.1
      have hlo2 : lo ≤ 4294967296 := hfok.2.2.2
      clear hfok p1 p2 hbt hlo hfnm
      obtain ⟨w5, hw5⟩ : ∃ w5, w5 = wi.alloc (.cells #[.string fnm, .int .i64 bt, .int .i64 lo] 66) := ⟨_, rfl⟩
      have HB5 : Hid (Below wi.heap.size wi w5) := Lib.hid (by rw [hw5]; exact (Below.refl _ _).alloc (Nat.le_refl _) _)
      have HH5 : Hid (Bk w5 wi.heap.size 66 #[.string fnm, .int .i64 bt, .int .i64 lo]) := Lib.hid (by rw [hw5]; exact Bk.new _ _ _)
      have HX5 : Hid (Bk w5 hx 46 #[.int .i64 (d : Int), .slice none 0 0]) := Lib.hid (HBK.out.below HB5.out hxi)
      have HS5 : Hid (StrSt w5 B s) := Lib.hid (HST.out.below HB5.out hwB)
      have HR5 : Hid (w5.cell? ⟨b2, o2, none⟩ = some (.int .i64 kk)) := Lib.hid (by rw [hw5]; exact cell_keep r0 _)
      have hfs : wi.heap.size ≠ s := by have := HST.out.bk; obtain ⟨cs, h⟩ := this; have := h.lt; omega
      have hb2s : b2 ≠ s := by
        obtain ⟨cs, h⟩ := HST.out.bk
        intro e
        have h1 := (HCB.out)
        exact h1 e
      have HSZ : wi.heap.size < w5.heap.size := HH5.out.lt
      have hB5 : B ≤ w5.heap.size := by omega
      go_upto_region 26 with fail
      rw [← hw5]
      clear hw5 q0 r0 r1 s1 f0 f1 f2 e0 e1
      obtain ⟨hf, hhf⟩ : ∃ hf, hf = wi.heap.size := ⟨_, rfl⟩
      rw [← hhf] at HH5 hfs ⊢
      have HHF := Lib.hid hhf
      clear hhf
      have d1 : w5.cell? ⟨hx, 1, none⟩ = some (.slice none 0 0) := HX5.out.cell 1
      have d2 : w5.cell? ⟨b2, o2, none⟩ = some (.int .i64 kk) := HR5.out
      have d3 : w5.cell? ⟨hf, 1, none⟩ = some (.int .i64 bt) := HH5.out.cell 1
      have d4 : w5.cell? ⟨hf, 2, none⟩ = some (.int .i64 lo) := HH5.out.cell 2
      have s1 : w5.drew.cell? ⟨hx, 1, none⟩ = some (.slice none 0 0) ∧ w5.drew.cell? ⟨b2, o2, none⟩ = some (.int .i64 kk) ∧ w5.drew.cell? ⟨hf, 1, none⟩ = some (.int .i64 bt) ∧ w5.drew.cell? ⟨hf, 2, none⟩ = some (.int .i64 lo) := ⟨d1, d2, d3, d4⟩
      refine wp_region_noPanic ?_
      refine wp_region_E (S := fun wx => wx.cell? ⟨hx, 1, none⟩ = some (.slice none 0 0) ∧ wx.cell? ⟨b2, o2, none⟩ = some (.int .i64 kk) ∧ wx.cell? ⟨hf, 1, none⟩ = some (.int .i64 bt) ∧ wx.cell? ⟨hf, 2, none⟩ = some (.int .i64 lo)) (last := 19) (by kernel_rfl) ?_
      refine wpAnyE_val (i := 0) (v := .pointer (some ⟨hx, 1, none⟩)) (d := some 104) rfl rfl (by kernel_rfl) (by kernel_rfl) (by kernel_rfl) (by kernel_rfl) (fun _ _ _ h => h) (Or.inl ⟨by rfl, fun w hS => by (obtain ⟨h0, h1, h2, h3⟩ := hS; go_simp)⟩) s1 ?_
      (try simp only [Act.put, List.setIfInBounds_toArray, List.set_cons_zero, List.set_cons_succ])
      refine wpAnyE_val (i := 1) (v := .slice none 0 0) (d := some 105) rfl rfl (by kernel_rfl) (by kernel_rfl) (by kernel_rfl) (by kernel_rfl) (fun _ _ _ h => h) (Or.inl ⟨by rfl, fun w hS => by (obtain ⟨h0, h1, h2, h3⟩ := hS; go_simp)⟩) s1 ?_
      (try simp only [Act.put, List.setIfInBounds_toArray, List.set_cons_zero, List.set_cons_succ])
      refine wpAnyE_val (i := 2) (v := .slice (some ⟨b2, o2, none⟩) cn cc) (d := some 106) rfl rfl (by kernel_rfl) (by kernel_rfl) (by kernel_rfl) (by kernel_rfl) (fun _ _ _ h => h) (Or.inl ⟨by rfl, fun w hS => by (obtain ⟨h0, h1, h2, h3⟩ := hS; go_simp)⟩) s1 ?_
      (try simp only [Act.put, List.setIfInBounds_toArray, List.set_cons_zero, List.set_cons_succ])
      refine wpAnyE_val (i := 3) (v := .pointer (some ⟨b2, o2, none⟩)) (d := some 107) rfl rfl (by kernel_rfl) (by kernel_rfl) (by kernel_rfl) (by kernel_rfl) (fun _ _ _ h => h) (Or.inl ⟨by rfl, fun w hS => by (obtain ⟨h0, h1, h2, h3⟩ := hS; go_simp)⟩) s1 ?_
      (try simp only [Act.put, List.setIfInBounds_toArray, List.set_cons_zero, List.set_cons_succ])
      refine wpAnyE_val (i := 4) (v := .pointer (some ⟨b2, o2, none⟩)) (d := some 108) rfl rfl (by kernel_rfl) (by kernel_rfl) (by kernel_rfl) (by kernel_rfl) (fun _ _ _ h => h) (Or.inl ⟨by rfl, fun w hS => by (obtain ⟨h0, h1, h2, h3⟩ := hS; go_simp)⟩) s1 ?_
      (try simp only [Act.put, List.setIfInBounds_toArray, List.set_cons_zero, List.set_cons_succ])
      refine wpAnyE_val (i := 5) (v := .int .i64 kk) (d := some 109) rfl rfl (by kernel_rfl) (by kernel_rfl) (by kernel_rfl) (by kernel_rfl) (fun _ _ _ h => h) (Or.inl ⟨by rfl, fun w hS => by (obtain ⟨h0, h1, h2, h3⟩ := hS; go_simp)⟩) s1 ?_
      (try simp only [Act.put, List.setIfInBounds_toArray, List.set_cons_zero, List.set_cons_succ])
      refine wpAnyE_val (i := 6) (v := .agg #[.int .i64 kk, .int .i64 0]) (d := some 110) rfl rfl (by kernel_rfl) (by kernel_rfl) (by kernel_rfl) (by kernel_rfl) (fun _ _ _ h => h) (Or.inl ⟨by rfl, fun w hS => by (obtain ⟨h0, h1, h2, h3⟩ := hS; go_simp)⟩) s1 ?_
      (try simp only [Act.put, List.setIfInBounds_toArray, List.set_cons_zero, List.set_cons_succ])
      refine wpAnyE_val (i := 7) (v := .pointer (some ⟨hf, 2, none⟩)) (d := some 111) rfl rfl (by kernel_rfl) (by kernel_rfl) (by kernel_rfl) (by kernel_rfl) (fun _ _ _ h => h) (Or.inl ⟨by rfl, fun w hS => by (obtain ⟨h0, h1, h2, h3⟩ := hS; go_simp)⟩) s1 ?_
      (try simp only [Act.put, List.setIfInBounds_toArray, List.set_cons_zero, List.set_cons_succ])
      refine wpAnyE_val (i := 8) (v := .int .i64 lo) (d := some 112) rfl rfl (by kernel_rfl) (by kernel_rfl) (by kernel_rfl) (by kernel_rfl) (fun _ _ _ h => h) (Or.inl ⟨by rfl, fun w hS => by (obtain ⟨h0, h1, h2, h3⟩ := hS; go_simp)⟩) s1 ?_
      (try simp only [Act.put, List.setIfInBounds_toArray, List.set_cons_zero, List.set_cons_succ])
      refine wpAnyE_val (i := 9) (v := .pointer (some ⟨s, 0, none⟩)) (d := some 113) rfl rfl (by kernel_rfl) (by kernel_rfl) (by kernel_rfl) (by kernel_rfl) (fun _ _ _ h => h) (Or.inl ⟨by rfl, fun w hS => by (obtain ⟨h0, h1, h2, h3⟩ := hS; go_simp)⟩) s1 ?_
      (try simp only [Act.put, List.setIfInBounds_toArray, List.set_cons_zero, List.set_cons_succ])
      refine wpAnyE_val (i := 10) (v := .pointer (some ⟨hf, 1, none⟩)) (d := some 114) rfl rfl (by kernel_rfl) (by kernel_rfl) (by kernel_rfl) (by kernel_rfl) (fun _ _ _ h => h) (Or.inl ⟨by rfl, fun w hS => by (obtain ⟨h0, h1, h2, h3⟩ := hS; go_simp)⟩) s1 ?_
      (try simp only [Act.put, List.setIfInBounds_toArray, List.set_cons_zero, List.set_cons_succ])
      refine wpAnyE_val (i := 11) (v := .int .i64 bt) (d := some 115) rfl rfl (by kernel_rfl) (by kernel_rfl) (by kernel_rfl) (by kernel_rfl) (fun _ _ _ h => h) (Or.inl ⟨by rfl, fun w hS => by (obtain ⟨h0, h1, h2, h3⟩ := hS; go_simp)⟩) s1 ?_
      (try simp only [Act.put, List.setIfInBounds_toArray, List.set_cons_zero, List.set_cons_succ])
      refine wpAnyE_val (i := 12) (v := .int .i64 M) (d := some 116) rfl rfl (by kernel_rfl) (by kernel_rfl) (by kernel_rfl) (by kernel_rfl) (fun _ _ _ h => h) (Or.inl ⟨by rfl, fun w hS => by (obtain ⟨h0, h1, h2, h3⟩ := hS; go_simp)⟩) s1 ?_
      (try simp only [Act.put, List.setIfInBounds_toArray, List.set_cons_zero, List.set_cons_succ])
      refine wpAnyE_one (i := 13) rfl (by kernel_rfl) rfl ?_
      go_simp
      (with_reducible refine (HNX.out s B M _ (HS5.out.below (w' := w5.drew) (Below.refl _ _).drew hB5) hB HP.out.1 ?hM).mono ?_)
      case hM => (have h := HP.out.2; omega)
      rintro e w6 ⟨v6, rfl, hv60, hv61, hst6, hg6⟩
      have hx6 : Bk w6 hx 46 #[.int .i64 (d : Int), .slice none 0 0] := HX5.out.drew.grown hg6 (fun e => by injection e with e; exact hxs e)
      have hf6 : Bk w6 hf 66 #[.string fnm, .int .i64 bt, .int .i64 lo] := HH5.out.drew.grown hg6 (fun e => by injection e with e; exact hfs e)
      have hb2l : b2 < w5.heap.size := World.block_lt_of_cell? w5 _ HR5.out
      have hr6 : w6.cell? ⟨b2, o2, none⟩ = some (.int .i64 kk) := (World.cell?_of_block (w := w5.drew) (hg6.block b2 hb2l (fun e => by injection e with e; exact hb2s e))).trans HR5.out
      have hwv : IntKind.i64.wrap (lo + v6) = lo + v6 := by (have h := HP.out.2; exact wrap_small2 (by omega) (by omega))
      have hsz6 := hg6.size
      have hsz6' : w5.heap.size ≤ w6.heap.size := hsz6
      have s6 : w6.cell? ⟨hx, 1, none⟩ = some (.slice none 0 0) ∧ w6.cell? ⟨b2, o2, none⟩ = some (.int .i64 kk) ∧ w6.cell? ⟨hf, 1, none⟩ = some (.int .i64 bt) ∧ w6.cell? ⟨hf, 2, none⟩ = some (.int .i64 lo) := ⟨hx6.cell 1, hr6, hf6.cell 1, hf6.cell 2⟩
      refine And.intro (by first | exact s6 | exact fun _ => s6) ?_
      (try simp only [Act.put, List.setIfInBounds_toArray, List.set_cons_zero, List.set_cons_succ])
      refine wpAnyE_val (i := 14) (v := .int .i64 (lo + v6)) (d := some 118) rfl rfl (by kernel_rfl) (by kernel_rfl) (by kernel_rfl) (by kernel_rfl) (fun _ _ _ h => h) (Or.inl ⟨by rfl, fun w hS => by (obtain ⟨h0, h1, h2, h3⟩ := hS; go_simp)⟩) s6 ?_
      (try simp only [Act.put, List.setIfInBounds_toArray, List.set_cons_zero, List.set_cons_succ])
      refine wpAnyE_val (i := 15) (v := .agg #[.slice none 0 0, .int .i64 kk, .int .i64 0, .int .i64 (lo + v6)]) (d := some 119) rfl rfl (by kernel_rfl) (by kernel_rfl) (by kernel_rfl) (by kernel_rfl) (fun _ _ _ h => h) (Or.inl ⟨by rfl, fun w hS => by (obtain ⟨h0, h1, h2, h3⟩ := hS; go_simp)⟩) s6 ?_
      (try simp only [Act.put, List.setIfInBounds_toArray, List.set_cons_zero, List.set_cons_succ])
      refine wpAnyE_one (i := 16) rfl (by kernel_rfl) rfl ?_
      go_simp
      have s7 : (w6.alloc (.cells #[.slice none 0 0, .int .i64 kk, .int .i64 0, .int .i64 (lo + v6)] 158)).cell? ⟨hx, 1, none⟩ = some (.slice none 0 0) ∧ (w6.alloc (.cells #[.slice none 0 0, .int .i64 kk, .int .i64 0, .int .i64 (lo + v6)] 158)).cell? ⟨b2, o2, none⟩ = some (.int .i64 kk) ∧ (w6.alloc (.cells #[.slice none 0 0, .int .i64 kk, .int .i64 0, .int .i64 (lo + v6)] 158)).cell? ⟨hf, 1, none⟩ = some (.int .i64 bt) ∧ (w6.alloc (.cells #[.slice none 0 0, .int .i64 kk, .int .i64 0, .int .i64 (lo + v6)] 158)).cell? ⟨hf, 2, none⟩ = some (.int .i64 lo) := ⟨(hx6.alloc _).cell 1, cell_keep hr6 _, (hf6.alloc _).cell 1, (hf6.alloc _).cell 2⟩
      refine And.intro (by first | exact s7 | exact fun _ => s7) ?_
      (try simp only [Act.put, List.setIfInBounds_toArray, List.set_cons_zero, List.set_cons_succ])
      refine wpAnyE_if (i := 17) rfl (by kernel_rfl) rfl ?_
      refine step_append_one rfl (.tmp 105) (.tmp 120) 44 rfl w5.heap.size 158 i5 (.agg #[.slice none 0 0, .int .i64 0, .int .i64 0, .int .i64 0]) 4 48 Try.underlying44 hi5 hz50 hz51 hz52 rfl (by decide) (.slice none 0 0) 0 [] rfl (World.ownsRow_nil _ _ _ _) w6.heap.size 1 158 #[.slice none 0 0, .int .i64 kk, .int .i64 0, .int .i64 (lo + v6)] rfl (Bk.new w6 _ _) rfl ?c1 1 rfl ?c2 ?c3 ?c4 ?_
      case c1 => simp [Value.oneCell']
      case c2 => unfold maxLen; omega
      case c3 => omega
      case c4 => (simp; omega)
      intro g7 c7 w7 hown7 hg7 hat7
      have hx7 : Bk w7 hx 46 #[.int .i64 (d : Int), .slice none 0 0] := (hx6.alloc _).grown hg7 (fun e => by cases e)
      have hf7 : Bk w7 hf 66 #[.string fnm, .int .i64 bt, .int .i64 lo] := (hf6.alloc _).grown hg7 (fun e => by cases e)
      have hb26 : b2 < (w6.alloc (.cells #[.slice none 0 0, .int .i64 kk, .int .i64 0, .int .i64 (lo + v6)] 158)).heap.size := by simp; omega
      have hr7 : w7.cell? ⟨b2, o2, none⟩ = some (.int .i64 kk) := (World.cell?_of_block (hg7.block b2 hb26 (fun e => by cases e))).trans (cell_keep hr6 _)
      have s8 : w7.cell? ⟨hx, 1, none⟩ = some (.slice none 0 0) ∧ w7.cell? ⟨b2, o2, none⟩ = some (.int .i64 kk) ∧ w7.cell? ⟨hf, 1, none⟩ = some (.int .i64 bt) ∧ w7.cell? ⟨hf, 2, none⟩ = some (.int .i64 lo) := ⟨hx7.cell 1, hr7, hf7.cell 1, hf7.cell 2⟩
      have k1 : w7.cell? ⟨hx, 1, none⟩ = some (.slice none 0 0) := hx7.cell 1
      have k2 := hx7.frozen 1
      refine And.intro (by first | exact s8 | exact fun _ => s8) ?_
      (try simp only [Act.put, List.setIfInBounds_toArray])
      refine wpAnyE_val (i := 18) (v := .pointer (some ⟨hx, 1, none⟩)) (d := some 122) rfl rfl (by kernel_rfl) (by kernel_rfl) (by kernel_rfl) (by kernel_rfl) (fun _ _ _ h => h) (Or.inl ⟨by rfl, fun w hS => by (obtain ⟨h0, h1, h2, h3⟩ := hS; go_simp)⟩) s8 ?_
      (try simp only [Act.put])
      refine wpAnyE_one (i := 19) rfl (by kernel_rfl) rfl ?_
      go_simp
      refine wpAnyE_done (by kernel_rfl) ?_ _
      refine NoPanic.normal ?_
      have hqa : Fq [s] w0 (w7.setCell ⟨hx, 1, none⟩ (.slice (some ⟨g7, 0, none⟩) 1 c7)) := (((((HQ.out.trans (Fq.of_below HB5.out) (SubF.refl _ _)).drew).grown hg6 (fun g hg => .inl (by injection hg with hg; simp [hg]))).alloc _).grown hg7 (fun g hg => by cases hg)).set (.inr hhx) 1 _
      have hkx5 : Kx B [46, 158] w6 (w7.setCell ⟨hx, 1, none⟩ (.slice (some ⟨g7, 0, none⟩) 1 c7)) := (((Kx.refl (B := B)).alloc _).grown (F := [46, 158]) (World.ownsRow_nil _ B 158 4) hg7 (Nat.le_refl _) (by simp)).set hx7 (by omega) (by simp) 1 _
      have hkx7 : Kx 0 [46] w7 (w7.setCell ⟨hx, 1, none⟩ (.slice (some ⟨g7, 0, none⟩) 1 c7)) := (Kx.refl (B := 0)).set hx7 (Nat.zero_le _) (by simp) 1 _
      have hcp := own_cap2 hown7
      have hkx5' := hkx5
      have HP9 : Hid (Bk (w7.setCell ⟨hx, 1, none⟩ (.slice (some ⟨g7, 0, none⟩) 1 c7)) hx 46 #[.int .i64 (d : Int), .slice (some ⟨g7, 0, none⟩) 1 c7] ∧ OvsY (w7.setCell ⟨hx, 1, none⟩ (.slice (some ⟨g7, 0, none⟩) 1 c7)) 0 (some ⟨g7, 0, none⟩) 1 c7 [⟨none, 0, 0, [], (kk : Int), 0, lo + v6⟩] ∧ GoodOv (ks.map Kd.p) u.p (([⟨none, 0, 0, [], (kk : Int), 0, lo + v6⟩] : List Ov).map Ov.p) ∧ StrSt (w7.setCell ⟨hx, 1, none⟩ (.slice (some ⟨g7, 0, none⟩) 1 c7)) B s ∧ Fq [s] w0 (w7.setCell ⟨hx, 1, none⟩ (.slice (some ⟨g7, 0, none⟩) 1 c7))) := Lib.hid (by
        refine ⟨by simpa using hx7.set_ 1 (.slice (some ⟨g7, 0, none⟩) 1 c7), ⟨?_, rfl, hcp.1, hcp.2, fun z hz => ?_⟩, .inr ⟨kk, lo + v6, c0.vals, r.map Cm.p, dk, rfl, ?_, ?_, HF.out.2.2.2.2.1, ?_⟩, hst6.kx hkx5 (Nat.le_refl _) (by omega) (by decide), hqa⟩
        · exact (RdY.of_own hown7).keep hkx7 (by decide)
        · rw [List.mem_singleton.1 hz]
          exact ⟨RdY.nil_ _, rfl, Nat.le_refl _, by show (0 : Nat) ≤ _; omega, wf_i64 (by show _ ≤ ((kk : Nat) : Int); omega) (by show ((kk : Nat) : Int) ≤ _; omega), wf_i64 (by show _ ≤ (0 : Int); omega) (by show (0 : Int) ≤ _; omega), by have h := HP.out.2; exact wf_i64 (by show _ ≤ lo + v6; omega) (by show lo + v6 ≤ _; omega)⟩
        · show u.cms.map Cm.p = _
          rw [HCM.out, List.map_cons, ← HF.out.2.2.2.1]; rfl
        · intro e
          have h1 := HVN.out
          rw [e] at h1
          exact hvn0 h1
        · have h1 := HF.out.2.2.2.2.2
          refine holdK_set (f := f) h1 (by rw [HF.out.2.2.1]; exact HF.out.1) (by rw [HFV.out.2]; omega) ?_
          rw [HFV.out.2, HFV.out.1, Int.toNat_natCast, ← HM.out]; omega)
      exact hN _ _ _ _ _ _ _ _ _ _ _ _ _ _ _ _ _ _ _ _ _ _ _ _ _ _ _ _ _ _ _ _ _ _ _ _ _ _ _ _ _ _ _ _ _ _ _ _ _ _ _ _ _ HP9

/-! ### Pu -/
noncomputable def pfParts : Code := (Try.f23.body.bind (findB 19)).getD .skip
theorem T.info46 : (Try.prog.info? 46).map (fun i => (i.zero, i.size, i.bytes)) = some (some (.agg #[.int .i64 0, .slice none 0 0]), 2, 32) := by kernel_rfl
/-- The parts drawn so far. -/
def PartsI (w0 w : World) (ks : List Kd) (ts : List Pf) (PA : Option Addr) (m pc : Nat) (pts : List Pt) : Prop :=
  w.ownsRow w0.heap.size 46 2 (.slice PA m pc) m (ptCs pts) ∧ m = pts.length ∧ (∀ z ∈ pts, PtY w 0 z) ∧ (∀ p ∈ pts, ∃ (k : Nat) (u : Pf), p.of_ = k ∧ ts[k]? = some u ∧ GoodOv (ks.map Kd.p) u.p (p.ovs.map Ov.p))

set_option maxHeartbeats 8000000 in
theorem pfParts_any {x1 x2 x3 x4 x9 x10 x11 x12 x13 x14 x15 x16 x17 x18 x19 x20 x21 x22 x23 x24 x25 x26 x27 x28 x29 x30 x31 x32 x33 x34 x35 x36 x37 x38 x39 x40 x41 x42 x43 x44 x45 x46 x47 x48 x49 x50 x51 x52 x53 x54 x55 x56 x57 x58 x59 x60 x61 x62 x63 x64 x65 x66 x67 x68 x69 x70 x71 x72 x73 x74 x75 x76 x77 x78 x79 x80 x81 x82 x83 x84 x85 x86 x87 x88 x89 x90 x91 x92 x93 x94 x95 x96 x97 x98 x99 x100 x101 x102 x103 x104 x105 x106 x107 x108 x109 x110 x111 x112 x113 x114 x115 x116 x117 x118 x119 x120 x121 x122 x123 x124 x125 x126 x127 x128 x129 x130 x131 x132 x133 x134 x135 : Value} {Q : Exit → Act → World → Prop} {w0 wi : World} {s B hp n c i oc q cc : Nat} {A OA CA : Option Addr} {ks : List Kd} {ts : List Pf} (hst0 : StrSt w0 B s) (hst : StrSt wi B s) (hB : B ≤ s) (hs0 : s < w0.heap.size) (hk : KsY w0 0 A n c ks) (hone : ∀ k ∈ ks, oneF k.nm k.fds = 0) (hts : PfsY w0 0 OA i oc ts) (hi : i ≤ 4) (hv : ∀ t ∈ ts, VCs holdK (ks.map Kd.p) (t.cms.map Cm.p)) (hq : Fq [s] w0 wi) (hhp : w0.heap.size ≤ hp) (hbk : Bk wi hp 43 #[.slice CA q cc, .slice none 0 0])
    (hN : ∀ (y14 y15 y16 y67 y68 y69 y70 y71 y72 y73 y74 y75 y76 y77 y78 y79 y80 y81 y82 y83 y84 y85 y86 y87 y88 y89 y90 y91 y92 y93 y94 y95 y96 y97 y98 y99 y100 y101 y102 y103 y104 y105 y106 y107 y108 y109 y110 y111 y112 y113 y114 y115 y116 y117 y118 y119 y120 y121 y122 y123 y124 y125 y126 y127 y128 y129 : Value) (PA : Option Addr) (m pc : Nat) (pts : List Pt) (w' : World), Hid (m ≤ 2 ∧ Bk w' hp 43 #[.slice CA q cc, .slice PA m pc] ∧ PartsI w0 w' ks ts PA m pc pts ∧ StrSt w' B s ∧ Fq [s] w0 w' ∧ Kx 0 [189, 43, 46] wi w') → Q .normal ⟨#[.slice A n c, x1, x2, x3, x4, .pointer (some ⟨s, 0, none⟩), .slice OA i oc, .int .i64 (i : Int), .pointer (some ⟨hp, 0, none⟩), x9, x10, x11, x12, x13, y14, y15, y16, x17, x18, x19, x20, x21, x22, x23, x24, x25, x26, x27, x28, x29, x30, x31, x32, x33, x34, x35, x36, x37, x38, x39, x40, x41, x42, x43, x44, x45, x46, x47, x48, x49, x50, x51, x52, x53, x54, x55, x56, x57, x58, x59, x60, x61, x62, x63, x64, x65, x66, y67, y68, y69, y70, y71, y72, y73, y74, y75, y76, y77, y78, y79, y80, y81, y82, y83, y84, y85, y86, y87, y88, y89, y90, y91, y92, y93, y94, y95, y96, y97, y98, y99, y100, y101, y102, y103, y104, y105, y106, y107, y108, y109, y110, y111, y112, y113, y114, y115, y116, y117, y118, y119, y120, y121, y122, y123, y124, y125, y126, y127, y128, y129, x130, x131, x132, x133, x134, x135], []⟩ w') :
    Code.wp Try.prog pfParts Q ⟨#[.slice A n c, x1, x2, x3, x4, .pointer (some ⟨s, 0, none⟩), .slice OA i oc, .int .i64 (i : Int), .pointer (some ⟨hp, 0, none⟩), x9, x10, x11, x12, x13, x14, x15, x16, x17, x18, x19, x20, x21, x22, x23, x24, x25, x26, x27, x28, x29, x30, x31, x32, x33, x34, x35, x36, x37, x38, x39, x40, x41, x42, x43, x44, x45, x46, x47, x48, x49, x50, x51, x52, x53, x54, x55, x56, x57, x58, x59, x60, x61, x62, x63, x64, x65, x66, x67, x68, x69, x70, x71, x72, x73, x74, x75, x76, x77, x78, x79, x80, x81, x82, x83, x84, x85, x86, x87, x88, x89, x90, x91, x92, x93, x94, x95, x96, x97, x98, x99, x100, x101, x102, x103, x104, x105, x106, x107, x108, x109, x110, x111, x112, x113, x114, x115, x116, x117, x118, x119, x120, x121, x122, x123, x124, x125, x126, x127, x128, x129, x130, x131, x132, x133, x134, x135], []⟩ wi := by
  conv => arg 2; whnf
  have HST0 := Lib.hid hst0
  have HST := Lib.hid hst
  have HNX := Lib.hid next_any
  have HK := Lib.hid hk
  have HON := Lib.hid hone
  have HTS := Lib.hid hts
  have HV := Lib.hid hv
  have HQ0 := Lib.hid hq
  have HBK := Lib.hid hbk
  have hw0i : w0.heap.size ≤ wi.heap.size := hq.size
  have hpi : hp < wi.heap.size := hbk.lt
  have hps : hp ≠ s := by obtain ⟨cs, h⟩ := hst.bk; exact Bk.ne_ hbk h (by decide)
  obtain ⟨i4, hi4, hz40, hz41, hz42⟩ := info_parts T.info46
  clear hst0 hst hk hone hts hv hq hbk
  go_wp2_with fail
  (with_reducible refine (HNX.out s B 3 _ HST.out hB (by omega) (by omega)).mono ?_)
  rintro e w1 ⟨v, rfl, hv0, hv1, hst1, hg1⟩
  obtain ⟨v, rfl⟩ : ∃ z : Nat, v = z := ⟨v.toNat, by omega⟩
  have HQ1 : Hid (Fq [s] w0 w1) := Lib.hid (HQ0.out.grown hg1 fun g hg => .inl (by injection hg with hg; simp [hg]))
  have HX1 : Hid (Kx 0 [189, 43, 46] wi w1) := Lib.hid ((Kx.fq (B' := 0) ((Fq.refl (F := [s])).grown hg1 fun g hg => .inl (by injection hg with hg; simp [hg])) HST.out (Nat.zero_le _)).mono (Nat.le_refl _) (by decide))
  have HB1 : Hid (Bk w1 hp 43 #[.slice CA q cc, .slice none 0 0]) := Lib.hid (HBK.out.grown hg1 (fun e => by injection e with e; exact hps e))
  have HS1 := Lib.hid hst1
  clear hst1 hg1 HBK HQ0 HST
  have hv3 : v < 3 := by omega
  go_wp2_with fail
  go_loopw [69] (fun iv wr => ∃ (j pc : Nat) (PA : Option Addr) (pts : List Pt), j ≤ v ∧ iv = .int .i64 j ∧ Hid (Bk wr hp 43 #[.slice CA q cc, .slice PA j pc]) ∧ Hid (PartsI w0 wr ks ts PA j pc pts) ∧ Hid (StrSt wr B s) ∧ Hid (Fq [s] w0 wr) ∧ Hid (Kx 0 [189, 43, 46] wi wr)) (fun iv _ => v - (intOf iv).toNat)
  case atStart => exact ⟨0, 0, none, [], Nat.zero_le _, rfl, HB1, Lib.hid ⟨World.ownsRow_nil _ _ _ _, rfl, (fun z hz => by cases hz), (fun z hz => by cases hz)⟩, HS1, HQ1, HX1⟩
  case round =>
    clear HQ1 HX1 HB1 HS1
    obtain ⟨j, pc, PA, pts, hj, rfl, HPB, HL, HS, HQ, HX⟩ := hrel
    obtain ⟨wo, rfl⟩ : ∃ x, x = wr := ⟨_, rfl⟩
    have HP : Hid (j ≤ 2 ∧ Bk wo hp 43 #[.slice CA q cc, .slice PA j pc] ∧ PartsI w0 wo ks ts PA j pc pts ∧ StrSt wo B s ∧ Fq [s] w0 wo ∧ Kx 0 [189, 43, 46] wi wo) := Lib.hid ⟨by omega, HPB.out, HL.out, HS.out, HQ.out, HX.out⟩
    by_cases hlt : j < v
    · have hjz : (j : Int) < v := by omega
      by_cases hi0 : i = 0
      · subst hi0
        have t0 : (((0 : Nat) : Int) == 0) = true := by decide
        go_wp2_with fail
        exact hN _ _ _ _ _ _ _ _ _ _ _ _ _ _ _ _ _ _ _ _ _ _ _ _ _ _ _ _ _ _ _ _ _ _ _ _ _ _ _ _ _ _ _ _ _ _ _ _ _ _ _ _ _ _ _ _ _ _ _ _ _ _ _ _ _ _ PA j pc pts wo HP
      · have t0 : ((i : Int) == 0) = false := by simp; omega
        clear HP
        go_upto_region 22 with fail
        go_cut [14] from 73 to 76 (fun s14 wx => s14 = .pointer (some ⟨wx.heap.size - 1, 0, none⟩) ∧ ∃ d : Nat, d < i ∧ Hid (Bk wx (wx.heap.size - 1) 46 #[.int .i64 (d : Int), .slice none 0 0] ∧ StrSt wx B s ∧ Fq [s] wo wx ∧ wo.heap.size < wx.heap.size))
        case first =>
          go_wp2_with fail
          (with_reducible refine (HNX.out s B i _ HS.out hB (by omega) (by omega)).mono ?_)
          rintro e w2 ⟨d, rfl, hd0, hd1, hst2, hg2⟩
          obtain ⟨d, rfl⟩ : ∃ z : Nat, d = z := ⟨d.toNat, by omega⟩
          go_wp2_with fail
          go_meet
          case rel =>
            have hb2 : Below w2.heap.size w2 (w2.alloc (.cells #[.int .i64 (d : Int), .slice none 0 0] 46)) := (Below.refl _ _).alloc (Nat.le_refl _) _
            have hsz : (w2.alloc (.cells #[.int .i64 (d : Int), .slice none 0 0] 46)).heap.size - 1 = w2.heap.size := by simp
            rw [hsz]
            refine ⟨rfl, d, by omega, Lib.hid ⟨Bk.new _ _ _, hst2.below hb2 (hst2.lo hB), ((Fq.refl (F := [s])).grown hg2 (fun g hg => .inl (by injection hg with hg; simp [hg]))).alloc _, by have := hg2.size; simp; omega⟩⟩
        case rest =>
          obtain ⟨rfl, d, hdi, HD⟩ := hcut
          obtain ⟨w3, rfl⟩ : ∃ x, x = wc := ⟨_, rfl⟩
          obtain ⟨hx, hhx⟩ : ∃ hx, hx = w3.heap.size - 1 := ⟨_, rfl⟩
          have hxw : wo.heap.size ≤ hx := by have := HD.out.2.2.2; omega
          rw [← hhx] at HD ⊢
          clear hhx
          obtain ⟨u, hu⟩ : ∃ u, ts[d]? = some u := ⟨_, List.getElem?_eq_getElem (by have := HTS.out.len; omega)⟩
          have hkx0 := Kx.fq (B' := 0) HQ.out HST0.out (Nat.zero_le _)
          have HKO := Lib.hid (HK.out.keep hkx0 (by decide) (by decide))
          have HTO := Lib.hid (HTS.out.keep hkx0 (by decide) (by decide) (by decide) (by decide) (by decide))
          have HU := Lib.hid hu
          clear hu hkx0
          go_step
          go_step
          refine pfOver_any HS.out HD.out.2.1 hB HKO.out HON.out HTO.out hdi HU.out (HV.out u (List.mem_of_getElem? HU.out)) HD.out.2.2.1 hxw HD.out.1 ?_
          intros
          rename_i oA on oc2 ovs w4 HR
          obtain ⟨w4, rfl⟩ : ∃ x, x = w4 := ⟨_, rfl⟩
          obtain ⟨hbx4, hov4, hgd4, hst4, hq4⟩ := HR.out
          have hkx4 := Kx.fq (B' := 0) hq4 HS.out (Nat.zero_le _)
          have HPB4 : Hid (Bk w4 hp 43 #[.slice CA q cc, .slice PA j pc]) := Lib.hid (hkx4.bk HPB.out (by decide))
          have HOW4 : Hid (w4.ownsRow w0.heap.size 46 2 (.slice PA j pc) j (ptCs pts)) := Lib.hid (hkx4.own HL.out.1 (by decide))
          have HZ4 : Hid (∀ z ∈ pts, PtY w4 0 z) := Lib.hid fun z hz => (HL.out.2.2.1 z hz).keep hkx4 (by decide) (by decide)
          have HOV4 := Lib.hid (And.intro hov4 hgd4)
          have HS4 := Lib.hid hst4
          have HQ4 : Hid (Fq [s] w0 w4) := Lib.hid (HQ.out.trans hq4 (SubF.refl _ _))
          have HX4 : Hid (Kx 0 [189, 43, 46] wi w4) := Lib.hid (HX.out.trans (hkx4.mono (Nat.le_refl _) (by decide)))
          have p0 : w4.cell? ⟨hp, 1, none⟩ = some (.slice PA j pc) := HPB4.out.cell 1
          have x0 : w4.cell? ⟨hx, 0, none⟩ = some (.int .i64 (d : Int)) := hbx4.cell 0
          have x1 : w4.cell? ⟨hx, 1, none⟩ = some (.slice oA on oc2) := hbx4.cell 1
          have hw04 : w0.heap.size ≤ w4.heap.size := HQ4.out.size
          have hB0 : B ≤ w0.heap.size := HST0.out.lo hB
          clear hbx4 hov4 hgd4 hst4 hq4 hkx4 HR
          go_wp2_with
            (at_builtin
             go_must (refine wpList_append_one _ rfl (.tmp 124) (.tmp 126) _ rfl w0.heap.size 46 i4 (.agg #[.int .i64 0, .slice none 0 0]) 2 32 Try.underlying41 hi4 hz40 hz41 hz42 rfl (by decide) (.slice PA j pc) j (ptCs pts) rfl (HOW4.out.alloc _) w4.heap.size 1 46 #[.int .i64 (d : Int), .slice oA on oc2] rfl (Bk.new w4 _ _) rfl ?c1 (j + 1) rfl ?c2 ?c3 ?c4 ?_)
             case c1 => simp [Value.oneCell']
             case c2 => unfold maxLen; omega
             case c3 => omega
             case c4 => (simp; omega)
             intro g8 c8 w8 hown8 hg8 hat8
             have hp8 := (HPB4.out.alloc (.cells #[.int .i64 (d : Int), .slice oA on oc2] 46)).grown hg8 (fun e => own_ne HOW4.out HPB4.out (by decide) e.symm)
             have p8 : w8.cell? ⟨hp, 1, none⟩ = some (.slice PA j pc) := hp8.cell 1
             have f8 : w8.frozen? ⟨hp, 1, none⟩ = false := hp8.frozen 1)
          have hkx8 : Kx 0 [46] w4 w8 := ((Kx.refl (B := 0)).alloc _).grown (HOW4.out.alloc _) hg8 (Nat.zero_le _) (by simp)
          have hset : Kx 0 [43] w8 (w8.setCell ⟨hp, 1, none⟩ (.slice (some ⟨g8, 0, none⟩) (j + 1) c8)) := Kx.set (B := 0) (F := [43]) Kx.refl hp8 (Nat.zero_le _) (by simp) 1 _
          have hkxB : Kx B [46, 43] w4 (w8.setCell ⟨hp, 1, none⟩ (.slice (some ⟨g8, 0, none⟩) (j + 1) c8)) := (((Kx.refl (B := B)).alloc _).grown (F := [46, 43]) (HOW4.out.alloc _) hg8 (by omega) (by simp)).set hp8 (by omega) (by simp) 1 _
          have HPN : Hid (Bk (w8.setCell ⟨hp, 1, none⟩ (.slice (some ⟨g8, 0, none⟩) (j + 1) c8)) hp 43 #[.slice CA q cc, .slice (some ⟨g8, 0, none⟩) (j + 1) c8]) := Lib.hid (by simpa using hp8.set_ 1 (.slice (some ⟨g8, 0, none⟩) (j + 1) c8))
          have HLN : Hid (PartsI w0 (w8.setCell ⟨hp, 1, none⟩ (.slice (some ⟨g8, 0, none⟩) (j + 1) c8)) ks ts (some ⟨g8, 0, none⟩) (j + 1) c8 (pts ++ [⟨d, oA, on, oc2, ovs⟩])) := Lib.hid (by
            refine ⟨?_, by rw [List.length_append, ← HL.out.2.1]; rfl, fun z hz => ?_, fun z hz => ?_⟩
            · rw [show ptCs (pts ++ [(⟨d, oA, on, oc2, ovs⟩ : Pt)]) = ptCs pts ++ (#[Value.int .i64 (d : Int), .slice oA on oc2] : Array Value).toList by simp [ptCs, Pt.cs]]
              exact hset.own hown8 (by decide)
            · rcases List.mem_append.1 hz with hz | hz
              · exact ((HZ4.out z hz).keep hkx8 (by decide) (by decide)).keep hset (by decide) (by decide)
              · rw [List.mem_singleton.1 hz]
                exact ⟨(HOV4.out.1.keep hkx8 (by decide) (by decide)).keep hset (by decide) (by decide), wf_i64 (by show _ ≤ ((d : Nat) : Int); omega) (by show ((d : Nat) : Int) ≤ _; omega)⟩
            · rcases List.mem_append.1 hz with hz | hz
              · exact HL.out.2.2.2 z hz
              · rw [List.mem_singleton.1 hz]
                exact ⟨d, u, rfl, HU.out, HOV4.out.2⟩)
          have HSN : Hid (StrSt (w8.setCell ⟨hp, 1, none⟩ (.slice (some ⟨g8, 0, none⟩) (j + 1) c8)) B s) := Lib.hid (HS4.out.kx hkxB (Nat.le_refl _) (HS4.out.lo hB) (by decide))
          have HQN : Hid (Fq [s] w0 (w8.setCell ⟨hp, 1, none⟩ (.slice (some ⟨g8, 0, none⟩) (j + 1) c8))) := Lib.hid (((HQ4.out.alloc _).grown hg8 (fun g hg => .inr (HOW4.out.lt g hg).1)).set (.inr hhp) 1 _)
          have HXN : Hid (Kx 0 [189, 43, 46] wi (w8.setCell ⟨hp, 1, none⟩ (.slice (some ⟨g8, 0, none⟩) (j + 1) c8))) := Lib.hid (HX4.out.trans (hkxB.mono (Nat.zero_le _) (by decide)))
          clear hkx8 hset hkxB hown8 hg8 hat8 p0 x0 x1 hp8 p8 f8
          go_wp2_with fail
          go_roundw
          case rel => exact ⟨j + 1, c8, some ⟨g8, 0, none⟩, pts ++ [⟨d, oA, on, oc2, ovs⟩], by omega, by go_num, HPN, HLN, HSN, HQN, HXN⟩
          case measure => simp [intOf]; omega
    · obtain rfl : v = j := by omega
      go_wp2_with fail
      exact hN _ _ _ _ _ _ _ _ _ _ _ _ _ _ _ _ _ _ _ _ _ _ _ _ _ _ _ _ _ _ _ _ _ _ _ _ _ _ _ _ _ _ _ _ _ _ _ _ _ _ _ _ _ _ _ _ _ _ _ _ _ _ _ _ _ _ PA v pc pts wo HP

/-! ### Px -/
theorem T.info43 : (Try.prog.info? 43).map (fun i => (i.zero, i.size, i.bytes)) = some (some (.agg #[.slice none 0 0, .slice none 0 0]), 2, 48) := by kernel_rfl
/-- The templates drawn so far. -/
structure TsI (base : Nat) (w : World) (ks : List Kd) (OA : Option Addr) (i oc : Nat) (ts : List Pf) : Prop where
  own : w.ownsRow base 43 2 (.slice OA i oc) i (pfCs ts)
  len : i = ts.length
  ok : ∀ t ∈ ts, PfY w 0 t
  cn : ∀ t ∈ ts, t.cn ≤ 16
  dr : DrT (ks.map Kd.p) (ts.map Pf.p)
theorem TsI.y {base : Nat} {w : World} {ks : List Kd} {OA : Option Addr} {i oc : Nat} {ts : List Pf} (h : TsI base w ks OA i oc ts) : PfsY w 0 OA i oc ts :=
  ⟨RdY.of_own h.own, h.len, (own_cap2 h.own).1, (own_cap2 h.own).2, h.ok⟩

/-- The state of the loop. -/
def TsL (N : Nat) (W0 : World) (B s : Nat) (ks : List Kd) (ov iv : Value) (wr : World) : Prop := ∃ (i oc : Nat) (OA : Option Addr) (ts : List Pf), i ≤ N ∧ iv = .int .i64 i ∧ ov = .slice OA i oc ∧ Hid (TsI W0.heap.size wr ks OA i oc ts) ∧ Hid (StrSt wr B s) ∧ Hid (Fq [s] W0 wr)

set_option maxHeartbeats 8000000 in
theorem prefabs_any (xA : Option Addr) (xn xc B : Nat) (zs : List Int) {kn kc : Nat} {kA : Option Addr} {ks : List Kd} (w : World) (hr : Rd w B 1 xA xn (zs.map (Value.int .i64))) (hn : xn = zs.length) (hnc : xn ≤ xc) (hc : xc ≤ 9223372036854775807) (hz : ∀ z ∈ zs, (Lit.int .i64 z).wf = true) (hB : B ≤ w.heap.size) (hk : KsY w 0 kA kn kc ks) (hone : ∀ k ∈ ks, oneF k.nm k.fds = 0) (hkn : kn ≤ 16) :
    Calls Try.prog 23 #[.slice kA kn kc, .slice xA xn xc] w fun e w' => ∃ (TA : Option Addr) (m tc : Nat) (ts : List Pf), e = .returned (.slice TA m tc) ∧ Hid (TsI w.heap.size w' ks TA m tc ts ∧ 1 ≤ m ∧ m ≤ 4) ∧ Below w.heap.size w w' := by
  obtain ⟨W0, hW0⟩ : ∃ W0, W0 = w.alloc (.cells #[.slice xA xn xc] 189) := ⟨_, rfl⟩
  have hb0 : Below w.heap.size w W0 := by rw [hW0]; exact (Below.refl _ _).alloc (Nat.le_refl _) _
  have hst : StrSt W0 B w.heap.size := ⟨xA, xn, xc, zs, by rw [hW0]; exact Bk.new _ _ _, hn, hnc, hc, hr.below (hb0.mono hB), hz⟩
  obtain ⟨s, hs⟩ : ∃ s, s = w.heap.size := ⟨_, rfl⟩
  have hsz0 : W0.heap.size = s + 1 := by rw [hW0, hs]; simp
  rw [← hs] at hst
  have hBs : B ≤ s := by omega
  have HNX := Lib.hid next_any
  have HB0 := Lib.hid hb0
  have HST := Lib.hid hst
  have HS := Lib.hid hs
  have HK : Hid (KsY W0 0 kA kn kc ks) := Lib.hid (hk.keep (F := []) (Kx.of_below (B := 0) hb0) (by simp) (by simp))
  have HON := Lib.hid hone
  obtain ⟨i5, hi5, hz50, hz51, hz52⟩ := info_parts T.info43
  clear hr hn hnc hc hz hb0 hst hk hone
  go_enter Try.func23, Try.ntmps23
  go_wp2_with fail
  rw [← hW0, ← hs]
  clear hW0 hs
  (with_reducible refine (HNX.out s B 4 _ HST.out hBs (by omega) (by omega)).mono ?_)
  rintro e w1 ⟨v, rfl, hv0, hv1, hst1, hg1⟩
  obtain ⟨N, hN⟩ : ∃ N : Nat, 1 + v = N := ⟨(1 + v).toNat, by omega⟩
  have HQ1 : Hid (Fq [s] W0 w1) := Lib.hid ((Fq.refl (F := [s])).grown hg1 fun g hg => .inl (by injection hg with hg; simp [hg]))
  have HS1 := Lib.hid hst1
  have hN1 : 1 ≤ N := by omega
  have hN4 : N ≤ 4 := by omega
  have hwN : wrap64 (1 + v) = N := by rw [hN]; exact wrap_small (by omega) (by omega)
  have hwN2 : IntKind.i64.wrap (1 + v) = N := by rw [hN]; exact wrap_small2 (by omega) (by omega)
  have HNV := Lib.hid hN
  clear hst1 hg1 hN
  go_wp2_with fail
  go_loopw [6, 23] (fun ov iv wr => TsL N W0 B s ks ov iv wr) (fun _ iv _ => N - (intOf iv).toNat)
  case atStart => exact ⟨0, 0, none, [], Nat.zero_le _, rfl, rfl, Lib.hid ⟨World.ownsRow_nil _ _ _ _, rfl, (fun z hz => by cases hz), (fun z hz => by cases hz), DrT.nil⟩, HS1, HQ1⟩
  case round =>
    clear HS1 HQ1
    obtain ⟨i, oc, OA, ts, hi, rfl, rfl, HI, HSx, HQ⟩ := hrel
    obtain ⟨wo, rfl⟩ : ∃ x, x = wr := ⟨_, rfl⟩
    by_cases hlt : i < N
    · have hiz : (i : Int) < N := by omega
      have hkx := Kx.fq (B' := 0) HQ.out HST.out (Nat.zero_le _)
      have HKO := Lib.hid (HK.out.keep hkx (by decide) (by decide))
      have hsw : s < wo.heap.size := by have := HQ.out.size; omega
      obtain ⟨w2, hw2⟩ : ∃ w2, w2 = wo.alloc (.cells #[.slice none 0 0, .slice none 0 0] 43) := ⟨_, rfl⟩
      obtain ⟨hp, hhp⟩ : ∃ hp, hp = wo.heap.size := ⟨_, rfl⟩
      have hb2 : Below wo.heap.size wo w2 := by rw [hw2]; exact (Below.refl _ _).alloc (Nat.le_refl _) _
      have HBP : Hid (Bk w2 hp 43 #[.slice none 0 0, .slice none 0 0]) := Lib.hid (by rw [hw2, hhp]; exact Bk.new _ _ _)
      have HS2 : Hid (StrSt w2 B s) := Lib.hid (HSx.out.below hb2 (HSx.out.lo hBs))
      have HQ2 : Hid (Fq [s] wo w2) := Lib.hid (Fq.of_below hb2)
      have HK2 : Hid (KsY w2 0 kA kn kc ks) := Lib.hid (HKO.out.keep (F := []) (Kx.of_below (B := 0) hb2) (by simp) (by simp))
      have hhp2 : wo.heap.size ≤ hp := by omega
      have HW2 := Lib.hid (And.intro hw2 hhp)
      clear hkx hb2 hw2 hhp
      go_upto_region 6 with fail
      go_cut [8] from 26 to 26 (fun s8 wx => s8 = .pointer (some ⟨hp, 0, none⟩) ∧ wx = w2)
      case first =>
        go_wp2_with fail
        go_meet
        case rel => exact ⟨by rw [HW2.out.2], HW2.out.1.symm⟩
      case rest =>
        obtain ⟨rfl, rfl⟩ := hcut
        obtain ⟨w2, rfl⟩ : ∃ q, q = wc := ⟨_, rfl⟩
        go_step
        go_step
        refine pfComps_any HS2.out hBs hsw HK2.out HON.out hkn HQ2.out hhp2 HBP.out ?_
        intros
        rename_i CA q cc l w3 HC
        obtain ⟨hq16, hbp3, ⟨hown3, hql, hcm3, hvc3⟩, hst3, hq3, hkx3⟩ := HC.out
        have HT3 := Lib.hid (And.intro hown3 (And.intro hql (And.intro hcm3 hvc3)))
        have HBP3 := Lib.hid hbp3
        have HS3 := Lib.hid hst3
        have HQ3 := Lib.hid hq3
        clear hbp3 hown3 hql hcm3 hvc3 hst3 hq3 hkx3 HC HBP HS2
        first
          | (go_step; refine pfParts_any HSx.out HS3.out hBs hsw HKO.out HON.out HI.out.y (by omega) (fun t ht => HI.out.dr.comps t.p (List.mem_map_of_mem ht)) HQ3.out hhp2 HBP3.out ?_)
          | (go_step; go_step; refine pfParts_any HSx.out HS3.out hBs hsw HKO.out HON.out HI.out.y (by omega) (fun t ht => HI.out.dr.comps t.p (List.mem_map_of_mem ht)) HQ3.out hhp2 HBP3.out ?_)
          | (go_step; go_step; go_step; refine pfParts_any HSx.out HS3.out hBs hsw HKO.out HON.out HI.out.y (by omega) (fun t ht => HI.out.dr.comps t.p (List.mem_map_of_mem ht)) HQ3.out hhp2 HBP3.out ?_)
          | (go_step; go_step; go_step; go_step; refine pfParts_any HSx.out HS3.out hBs hsw HKO.out HON.out HI.out.y (by omega) (fun t ht => HI.out.dr.comps t.p (List.mem_map_of_mem ht)) HQ3.out hhp2 HBP3.out ?_)
          | (go_step; go_step; go_step; go_step; go_step; refine pfParts_any HSx.out HS3.out hBs hsw HKO.out HON.out HI.out.y (by omega) (fun t ht => HI.out.dr.comps t.p (List.mem_map_of_mem ht)) HQ3.out hhp2 HBP3.out ?_)
          | (go_step; go_step; go_step; go_step; go_step; go_step; refine pfParts_any HSx.out HS3.out hBs hsw HKO.out HON.out HI.out.y (by omega) (fun t ht => HI.out.dr.comps t.p (List.mem_map_of_mem ht)) HQ3.out hhp2 HBP3.out ?_)
          | (go_step; go_step; go_step; go_step; go_step; go_step; go_step; refine pfParts_any HSx.out HS3.out hBs hsw HKO.out HON.out HI.out.y (by omega) (fun t ht => HI.out.dr.comps t.p (List.mem_map_of_mem ht)) HQ3.out hhp2 HBP3.out ?_)
        intros
        rename_i PA m pc pts w4 HP
        obtain ⟨hm2, hbp4, hpi4, hst4, hq4, hkx4⟩ := HP.out
        have hkw : Kx 0 [189] wo w4 := Kx.fq (B' := 0) hq4 HSx.out (Nat.zero_le _)
        have HOW : Hid (w4.ownsRow W0.heap.size 43 2 (.slice OA i oc) i (pfCs ts)) := Lib.hid (hkw.own HI.out.own (by decide))
        have HTO : Hid (∀ t ∈ ts, PfY w4 0 t) := Lib.hid fun t ht => (HI.out.ok t ht).keep hkw (by decide) (by decide) (by decide) (by decide)
        have HCY : Hid (CsY w4 0 CA q cc l) := Lib.hid ⟨(RdY.of_own HT3.out.1).keep hkx4 (by decide), HT3.out.2.1, (own_cap2 HT3.out.1).1, (own_cap2 HT3.out.1).2, fun z hz => (HT3.out.2.2.1 z hz).keep hkx4 (by decide)⟩
        have HPT := Lib.hid hpi4
        have HS4 := Lib.hid hst4
        have HQ4 : Hid (Fq [s] W0 w4) := Lib.hid (HQ.out.trans hq4 (SubF.refl _ _))
        have HBP4 := Lib.hid hbp4
        have p0 : w4.cell? ⟨hp, 0, none⟩ = some (.slice CA q cc) := hbp4.cell 0
        have p1 : w4.cell? ⟨hp, 1, none⟩ = some (.slice PA m pc) := hbp4.cell 1
        have hw4s : W0.heap.size ≤ w4.heap.size := HQ4.out.size
        clear hbp4 hpi4 hst4 hq4 hkx4 hkw HP
        go_wp2_with
          (at_builtin
           go_must (refine wpList_append_one _ rfl (.tmp 130) (.tmp 132) _ rfl W0.heap.size 43 i5 (.agg #[.slice none 0 0, .slice none 0 0]) 2 48 Try.underlying32 hi5 hz50 hz51 hz52 rfl (by decide) (.slice OA i oc) i (pfCs ts) rfl (HOW.out.alloc _) w4.heap.size 1 43 #[.slice CA q cc, .slice PA m pc] rfl (Bk.new w4 _ _) rfl ?c1 (i + 1) rfl ?c2 ?c3 ?c4 ?_)
           case c1 => simp [Value.oneCell']
           case c2 => unfold maxLen; omega
           case c3 => omega
           case c4 => (simp; omega)
           intro g8 c8 w8 hown8 hg8 hat8)
        have hkx8 : Kx 0 [43] w4 w8 := ((Kx.refl (B := 0)).alloc _).grown (HOW.out.alloc _) hg8 (Nat.zero_le _) (by simp)
        have hkxB : Kx B [43] w4 w8 := ((Kx.refl (B := B)).alloc _).grown (HOW.out.alloc _) hg8 (by omega) (by simp)
        have hpcp := own_cap2 HPT.out.1
        have HIN : Hid (TsI W0.heap.size w8 ks (some ⟨g8, 0, none⟩) (i + 1) c8 (ts ++ [⟨CA, q, cc, l, PA, m, pc, pts⟩])) := Lib.hid (by
          refine ⟨?_, by rw [List.length_append, ← HI.out.len]; rfl, fun t ht => ?_, fun t ht => ?_, ?_⟩
          · rw [show pfCs (ts ++ [(⟨CA, q, cc, l, PA, m, pc, pts⟩ : Pf)]) = pfCs ts ++ (#[Value.slice CA q cc, .slice PA m pc] : Array Value).toList by simp [pfCs, Pf.cs]]
            exact hown8
          · rcases List.mem_append.1 ht with ht | ht
            · exact (HTO.out t ht).keep hkx8 (by decide) (by decide) (by decide) (by decide)
            · rw [List.mem_singleton.1 ht]
              exact ⟨HCY.out.keep hkx8 (by decide) (by decide), ⟨(RdY.of_own HPT.out.1).keep hkx8 (by decide), HPT.out.2.1, hpcp.1, hpcp.2, fun z hz => (HPT.out.2.2.1 z hz).keep hkx8 (by decide) (by decide)⟩⟩
          · rcases List.mem_append.1 ht with ht | ht
            · exact HI.out.cn t ht
            · rw [List.mem_singleton.1 ht]; show q ≤ 16; omega
          · rw [List.map_append]
            refine HI.out.dr.snoc HT3.out.2.2.2 (by show (pts.map Pt.p).length ≤ 2; rw [List.length_map, ← HPT.out.2.1]; exact hm2) fun p hp => ?_
            obtain ⟨x, hx, rfl⟩ := List.mem_map.1 (show p ∈ pts.map Pt.p from hp)
            obtain ⟨k, u, h1, h2, h3⟩ := HPT.out.2.2.2 x hx
            exact ⟨k, u.p, h1, by rw [List.getElem?_map, h2]; rfl, h3⟩)
        have HSN : Hid (StrSt w8 B s) := Lib.hid (HS4.out.kx hkxB (Nat.le_refl _) (HS4.out.lo hBs) (by decide))
        have HQN : Hid (Fq [s] W0 w8) := Lib.hid ((HQ4.out.alloc _).grown hg8 (fun g hg => .inr (HOW.out.lt g hg).1))
        clear hkx8 hkxB hown8 hg8 hat8 hpcp
        go_wp2_with fail
        go_roundw
        case rel => first | exact ⟨i + 1, c8, some ⟨g8, 0, none⟩, ts ++ [⟨CA, q, cc, l, PA, m, pc, pts⟩], by omega, by go_num, rfl, HIN, HSN, HQN⟩ | ((repeat apply Exists.intro); (refine And.intro ?_ ?_); (focus (repeat' first | exact rfl | apply And.intro)); exact ⟨i + 1, c8, some ⟨g8, 0, none⟩, ts ++ [⟨CA, q, cc, l, PA, m, pc, pts⟩], by omega, by go_num, rfl, HIN, HSN, HQN⟩)
        case measure => simp [intOf]; omega
    · obtain rfl : i = N := by omega
      have HE : Hid (TsI w.heap.size wo ks OA i oc ts ∧ 1 ≤ i ∧ i ≤ 4) := Lib.hid ⟨⟨own_monoP HI.out.own (by have := HS.out; omega), HI.out.len, HI.out.ok, HI.out.cn, HI.out.dr⟩, hN1, hN4⟩
      have HBE : Hid (Below w.heap.size w wo) := Lib.hid (HB0.out.trans (Fq.below HQ.out (fun k hk => by rw [List.mem_singleton.1 hk]; have := HS.out; omega) (by have := HS.out; omega)))
      go_wp2_with fail
      go_ret
      exact ⟨OA, i, oc, ts, rfl, HE, HBE.out⟩
end Go.Proofs.Ytnidcmhfbkdioaa
