/-
  The replacement of a drawn part. Conditions: a stream of numbers; valid kinds and templates that can be read.
-/
import Derived.Deep.RegionHeld3
import Derived.Test.YtnidcmhfbkdioaaPr
import Derived.Test.YtnidcmhfbkdioaaPo
namespace Go.Proofs.Ytnidcmhfbkdioaa
open Go.RowKit
set_option maxRecDepth 100000

noncomputable def pfOver : Code := (Try.f23.body.bind (findB 23)).getD .skip
theorem T.info158 : (Try.prog.info? 158).map (fun i => (i.zero, i.size, i.bytes)) = some (some (.agg #[.slice none 0 0, .int .i64 0, .int .i64 0, .int .i64 0]), 4, 48) := by kernel_rfl

set_option maxHeartbeats 8000000 in
theorem pfOver_any {x1 x2 x3 x4 x7 x8 x9 x10 x11 x12 x13 x15 x16 x17 x18 x19 x20 x21 x22 x23 x24 x25 x26 x27 x28 x29 x30 x31 x32 x33 x34 x35 x36 x37 x38 x39 x40 x41 x42 x43 x44 x45 x46 x47 x48 x49 x50 x51 x52 x53 x54 x55 x56 x57 x58 x59 x60 x61 x62 x63 x64 x65 x66 x67 x68 x69 x70 x71 x72 x73 x74 x75 x76 x77 x78 x79 x80 x81 x82 x83 x84 x85 x86 x87 x88 x89 x90 x91 x92 x93 x94 x95 x96 x97 x98 x99 x100 x101 x102 x103 x104 x105 x106 x107 x108 x109 x110 x111 x112 x113 x114 x115 x116 x117 x118 x119 x120 x121 x122 x123 x124 x125 x126 x127 x128 x129 x130 x131 x132 x133 x134 x135 : Value} {Q : Exit → Act → World → Prop} {w0 wi : World} {s B hx n c oi oc d : Nat} {A OA : Option Addr} {ks : List Kd} {ts : List Pf} {u : Pf} (hst0 : StrSt w0 B s) (hst : StrSt wi B s) (hB : B ≤ s) (hk : KsY w0 0 A n c ks) (hone : ∀ k ∈ ks, oneF k.nm k.fds = 0) (hts : PfsY w0 0 OA oi oc ts) (hd : d < oi) (hu : ts[d]? = some u) (hv : VCs holdK (ks.map Kd.p) (u.cms.map Cm.p)) (hq : Fq [s] w0 wi) (hhx : w0.heap.size ≤ hx) (hbk : Bk wi hx 46 #[.int .i64 (d : Int), .slice none 0 0])
    (hN : ∀ (y15 y16 y77 y78 y79 y80 y81 y82 y83 y84 y85 y86 y87 y88 y89 y90 y91 y92 y93 y94 y95 y96 y97 y98 y99 y100 y101 y102 y103 y104 y105 y106 y107 y108 y109 y110 y111 y112 y113 y114 y115 y116 y117 y118 y119 y120 y121 y122 : Value) (oA : Option Addr) (on oc2 : Nat) (ovs : List Ov) (w' : World), Hid (Bk w' hx 46 #[.int .i64 (d : Int), .slice oA on oc2] ∧ OvsY w' 0 oA on oc2 ovs ∧ GoodOv (ks.map Kd.p) u.p (ovs.map Ov.p) ∧ StrSt w' B s ∧ Fq [s] w0 w') → Q .normal ⟨#[.slice A n c, x1, x2, x3, x4, .pointer (some ⟨s, 0, none⟩), .slice OA oi oc, x7, x8, x9, x10, x11, x12, x13, .pointer (some ⟨hx, 0, none⟩), y15, y16, x17, x18, x19, x20, x21, x22, x23, x24, x25, x26, x27, x28, x29, x30, x31, x32, x33, x34, x35, x36, x37, x38, x39, x40, x41, x42, x43, x44, x45, x46, x47, x48, x49, x50, x51, x52, x53, x54, x55, x56, x57, x58, x59, x60, x61, x62, x63, x64, x65, x66, x67, x68, x69, x70, x71, x72, x73, x74, x75, x76, y77, y78, y79, y80, y81, y82, y83, y84, y85, y86, y87, y88, y89, y90, y91, y92, y93, y94, y95, y96, y97, y98, y99, y100, y101, y102, y103, y104, y105, y106, y107, y108, y109, y110, y111, y112, y113, y114, y115, y116, y117, y118, y119, y120, y121, y122, x123, x124, x125, x126, x127, x128, x129, x130, x131, x132, x133, x134, x135], []⟩ w') :
    Code.wp Try.prog pfOver Q ⟨#[.slice A n c, x1, x2, x3, x4, .pointer (some ⟨s, 0, none⟩), .slice OA oi oc, x7, x8, x9, x10, x11, x12, x13, .pointer (some ⟨hx, 0, none⟩), x15, x16, x17, x18, x19, x20, x21, x22, x23, x24, x25, x26, x27, x28, x29, x30, x31, x32, x33, x34, x35, x36, x37, x38, x39, x40, x41, x42, x43, x44, x45, x46, x47, x48, x49, x50, x51, x52, x53, x54, x55, x56, x57, x58, x59, x60, x61, x62, x63, x64, x65, x66, x67, x68, x69, x70, x71, x72, x73, x74, x75, x76, x77, x78, x79, x80, x81, x82, x83, x84, x85, x86, x87, x88, x89, x90, x91, x92, x93, x94, x95, x96, x97, x98, x99, x100, x101, x102, x103, x104, x105, x106, x107, x108, x109, x110, x111, x112, x113, x114, x115, x116, x117, x118, x119, x120, x121, x122, x123, x124, x125, x126, x127, x128, x129, x130, x131, x132, x133, x134, x135], []⟩ wi := by
  conv => arg 2; whnf
  have hkx := Kx.fq (B' := 0) hq hst0 (Nat.zero_le _)
  have hty := hts.keep hkx (by decide) (by decide) (by decide) (by decide) (by decide)
  have hky := hk.keep hkx (by decide) (by decide)
  obtain ⟨b, o, rfl, hbb, q0, _⟩ := hty.rd.rd.pf hd hu
  obtain ⟨i5, hi5, hz50, hz51, hz52⟩ := info_parts T.info158
  have hc := (hty.ok u (List.mem_of_getElem? hu)).cs
  have hocap := hty.cap
  have hocap2 := hty.cap2
  have hkcap := hky.cap
  have hkcap2 := hky.cap2
  have e0 : wi.cell? ⟨hx, 0, none⟩ = some (.int .i64 (d : Int)) := hbk.cell 0
  have e1 : wi.cell? ⟨hx, 1, none⟩ = some (.slice none 0 0) := hbk.cell 1
  have hdz : (d : Int) < oi := by omega
  have hdz0 : (0 : Int) ≤ d := by omega
  have HST0 := Lib.hid hst0
  have HST := Lib.hid hst
  have HNX := Lib.hid next_any
  have HKY := Lib.hid hky
  have HON := Lib.hid hone
  have HV := Lib.hid hv
  have HQ := Lib.hid hq
  have HBK := Lib.hid hbk
  have HU := Lib.hid hu
  have hw0i : w0.heap.size ≤ wi.heap.size := hq.size
  have hxi : hx < wi.heap.size := hbk.lt
  have hxs : hx ≠ s := by obtain ⟨cs, h⟩ := hst.bk; exact Bk.ne_ hbk h (by decide)
  have hwB : B ≤ wi.heap.size := hst.lo hB
  have hwB0 : B ≤ w0.heap.size := hst0.lo hB
  have HNO : Hid (Bk wi hx 46 #[.int .i64 (d : Int), .slice none 0 0] ∧ OvsY wi 0 none 0 0 [] ∧ GoodOv (ks.map Kd.p) u.p (([] : List Ov).map Ov.p) ∧ StrSt wi B s ∧ Fq [s] w0 wi) := Lib.hid ⟨hbk, ⟨RdY.nil_ _, rfl, Nat.le_refl _, by decide, (fun x hx => by cases hx)⟩, .inl rfl, hst, hq⟩
  clear hk hone hts hkx hty hst0 hst hv hq hbk hky hbb
  have hccap := hc.cap
  have hccap2 := hc.cap2
  have hclen := hc.len
  generalize hcA : u.cA = cA at *
  generalize hcn : u.cn = cn at *
  generalize hcc : u.cc = cc at *
  have HCV := Lib.hid (And.intro hcA (And.intro hcn hcc))
  clear hcA hcn hcc
  cases hcm : u.cms with
  | nil =>
    rw [hcm] at hclen
    obtain rfl : cn = 0 := hclen
    clear hc hcm
    have t0 : decide ((0 : Int) < ((0 : Nat) : Int)) = false := by decide
    go_wp2_with fail
    exact hN _ _ _ _ _ _ _ _ _ _ _ _ _ _ _ _ _ _ _ _ _ _ _ _ _ _ _ _ _ _ _ _ _ _ _ _ _ _ _ _ _ _ _ _ _ _ _ _ none 0 0 [] wi HNO
  | cons c0 r =>
    rw [hcm] at hc hclen
    have hcn : 0 < cn := by rw [hclen]; exact Nat.succ_pos _
    obtain ⟨b2, o2, rfl, hbb2, r0, r1⟩ := hc.rd.rd.cm (k := 0) hcn (f := c0) rfl
    have hb2x : b2 ≠ s := by
      intro e
      obtain ⟨b9, o9, e9, _, hor, _⟩ := hc.rd.2 hcn
      injection e9 with e9
      injection e9 with e9 _
      rcases hor with hor | ⟨cs, hor⟩
      · omega
      · obtain ⟨cs2, h⟩ := HST.out.bk
        exact Bk.ne_ hor h (by decide) (e9.symm.trans e)
    have hc0 := hc.ok c0 (List.mem_cons_self ..)
    have hvcap := hc0.cap
    have hvcap2 := hc0.cap2
    have hvlen := hc0.len
    have hvl0 := hvlen
    obtain ⟨kk, dk, hk1, hk2, hk3⟩ := HV.out.ok c0.p (by rw [hcm]; exact List.mem_cons_self ..)
    have hk1 : c0.k = kk := hk1
    have hk3 : holdK dk c0.vals = true := hk3
    have t0 : decide ((0 : Int) < (cn : Int)) = true := by simp; omega
    rw [Nat.zero_mul, Nat.add_zero] at r0 r1
    have HCM := Lib.hid hcm
    rw [hk1] at r0
    have HCB : Hid (b2 ≠ s) := Lib.hid hb2x
    clear hc hc0 hbb2 hcm hclen
    generalize hvA : c0.A = vA at *
    generalize hvn : c0.n = vn at *
    have HVN : Hid (vn = c0.vals.length) := Lib.hid hvl0
    clear hvl0
    generalize hvc : c0.c = vc at *
    clear hvA hvn hvc
    by_cases hvn0 : vn = 0
    · subst hvn0
      have t1 : decide ((0 : Int) < ((0 : Nat) : Int)) = false := by decide
      clear hk1 hk2 hk3 hvlen
      go_wp2_with fail
      exact hN _ _ _ _ _ _ _ _ _ _ _ _ _ _ _ _ _ _ _ _ _ _ _ _ _ _ _ _ _ _ _ _ _ _ _ _ _ _ _ _ _ _ _ _ _ _ _ _ none 0 0 [] wi HNO
    · have t1 : decide ((0 : Int) < (vn : Int)) = true := by simp; omega
      obtain ⟨k, hks, hkp⟩ : ∃ k, ks[kk]? = some k ∧ dk = k.p := by
        rw [List.getElem?_map] at hk2
        cases h : ks[kk]? with
        | none => rw [h] at hk2; cases hk2
        | some k => rw [h] at hk2; injection hk2 with hk2; exact ⟨k, rfl, hk2.symm⟩
      have hkn : kk < n := by have := (List.getElem?_eq_some_iff.1 hks).1; have := HKY.out.len; omega
      have hkm := List.mem_of_getElem? hks
      obtain ⟨b3, o3, hA3, hbb3, _, s1⟩ := HKY.out.rd.rd.kd hkn hks
      subst hA3
      have hko := HKY.out.ok k hkm
      have hfl : c0.vals.length = k.fds.length := by have := (holdK_iff.1 hk3).2.1; rw [hkp] at this; exact this
      have hkn0 : 0 < k.n := by have := hko.len; omega
      obtain ⟨f, hf⟩ : ∃ f, k.fds[0]? = some f := ⟨_, List.getElem?_eq_getElem (by omega)⟩
      obtain ⟨b4, o4, hA4, hbb4, f0, f1, f2⟩ := hko.rd.rd.fd hkn0 hf
      have hfok := field_ok (one_ok (HON.out k hkm) (List.mem_of_getElem? hf))
      have hkcap3 := hko.cap
      have hkcap4 := hko.cap2
      have hkz : (kk : Int) < n := by omega
      have hkz0 : (0 : Int) ≤ kk := by omega
      have hknz : (0 : Int) < k.n := by omega
      rw [Nat.zero_mul, Nat.add_zero] at f0 f1 f2
      rw [hA4] at s1
      have HF := Lib.hid (And.intro hf (And.intro hks (And.intro hkp (And.intro hk1 (And.intro hk2 hk3)))))
      clear hk1 hk2 hk3 hks hkp hkm hko hfl hf hbb3 hbb4 hvlen hA4
      generalize hfnm : f.nm = fnm at *
      obtain ⟨bt, hbt⟩ : ∃ bt : Nat, f.bits = bt := ⟨f.bits.toNat, by omega⟩
      generalize hlo : f.low = lo at *
      generalize k.n = kn at *
      generalize k.c = kc at *
      rw [hbt] at f1 hfok
      have p1 := pow2_one bt
      have p2 := pow2_32 bt (by omega)
      obtain ⟨M, hM⟩ : ∃ M, M = (2 : Int) ^ bt := ⟨_, rfl⟩
      rw [← hM] at p1 p2
      have hsh : wrap64 ((2 : Int) ^ bt) = M := by rw [← hM]; exact wrap_small (Int.le_trans (by decide) p1) (Int.le_trans p2 (by decide))
      have hsh2 : IntKind.i64.wrap ((2 : Int) ^ bt) = M := by rw [← hM]; exact wrap_small2 (Int.le_trans (by decide) p1) (Int.le_trans p2 (by decide))
      have HM := Lib.hid hM
      clear hM
      have HP := Lib.hid (And.intro p1 p2)
      have HFV := Lib.hid (And.intro hbt hlo)
      have hb32 : bt ≤ 32 := by omega
      have hb0 : (0 : Int) ≤ bt := by omega
      have hlo1 : -4294967296 ≤ lo := hfok.2.2.1
      have hlo2 : lo ≤ 4294967296 := hfok.2.2.2
      clear hfok p1 p2 hbt hlo hfnm
      obtain ⟨w5, hw5⟩ : ∃ w5, w5 = wi.alloc (.cells #[.string fnm, .int .i64 bt, .int .i64 lo] 66) := ⟨_, rfl⟩
      have HB5 : Hid (Below wi.heap.size wi w5) := Lib.hid (by rw [hw5]; exact (Below.refl _ _).alloc (Nat.le_refl _) _)
      have HH5 : Hid (Bk w5 wi.heap.size 66 #[.string fnm, .int .i64 bt, .int .i64 lo]) := Lib.hid (by rw [hw5]; exact Bk.new _ _ _)
      have HX5 : Hid (Bk w5 hx 46 #[.int .i64 (d : Int), .slice none 0 0]) := Lib.hid (HBK.out.below HB5.out hxi)
      have HS5 : Hid (StrSt w5 B s) := Lib.hid (HST.out.below HB5.out hwB)
      have HR5 : Hid (w5.cell? ⟨b2, o2, none⟩ = some (.int .i64 kk)) := Lib.hid (by rw [hw5]; exact cell_keep r0 _)
      have hfs : wi.heap.size ≠ s := by have := HST.out.bk; obtain ⟨cs, h⟩ := this; have := h.lt; omega
      have hb2s : b2 ≠ s := by
        obtain ⟨cs, h⟩ := HST.out.bk
        intro e
        have h1 := (HCB.out)
        exact h1 e
      have HSZ : wi.heap.size < w5.heap.size := HH5.out.lt
      have hB5 : B ≤ w5.heap.size := by omega
      go_upto_region 26 with fail
      rw [← hw5]
      clear hw5 q0 r0 r1 s1 f0 f1 f2 e0 e1
      obtain ⟨hf, hhf⟩ : ∃ hf, hf = wi.heap.size := ⟨_, rfl⟩
      rw [← hhf] at HH5 hfs ⊢
      have HHF := Lib.hid hhf
      clear hhf
      have d1 : w5.cell? ⟨hx, 1, none⟩ = some (.slice none 0 0) := HX5.out.cell 1
      have d2 : w5.cell? ⟨b2, o2, none⟩ = some (.int .i64 kk) := HR5.out
      have d3 : w5.cell? ⟨hf, 1, none⟩ = some (.int .i64 bt) := HH5.out.cell 1
      have d4 : w5.cell? ⟨hf, 2, none⟩ = some (.int .i64 lo) := HH5.out.cell 2
      have s1 : w5.drew.cell? ⟨hx, 1, none⟩ = some (.slice none 0 0) ∧ w5.drew.cell? ⟨b2, o2, none⟩ = some (.int .i64 kk) ∧ w5.drew.cell? ⟨hf, 1, none⟩ = some (.int .i64 bt) ∧ w5.drew.cell? ⟨hf, 2, none⟩ = some (.int .i64 lo) := ⟨d1, d2, d3, d4⟩
      refine wp_region_noPanic ?_
      refine wp_region_E (S := fun wx => wx.cell? ⟨hx, 1, none⟩ = some (.slice none 0 0) ∧ wx.cell? ⟨b2, o2, none⟩ = some (.int .i64 kk) ∧ wx.cell? ⟨hf, 1, none⟩ = some (.int .i64 bt) ∧ wx.cell? ⟨hf, 2, none⟩ = some (.int .i64 lo)) (last := 19) (by kernel_rfl) ?_
      refine wpAnyE_val (i := 0) (v := .pointer (some ⟨hx, 1, none⟩)) (d := some 104) rfl rfl (by kernel_rfl) (by kernel_rfl) (by kernel_rfl) (by kernel_rfl) (fun _ _ _ h => h) (Or.inl ⟨by rfl, fun w hS => by (obtain ⟨h0, h1, h2, h3⟩ := hS; go_simp)⟩) s1 ?_
      (try simp only [Act.put, List.setIfInBounds_toArray, List.set_cons_zero, List.set_cons_succ])
      refine wpAnyE_val (i := 1) (v := .slice none 0 0) (d := some 105) rfl rfl (by kernel_rfl) (by kernel_rfl) (by kernel_rfl) (by kernel_rfl) (fun _ _ _ h => h) (Or.inl ⟨by rfl, fun w hS => by (obtain ⟨h0, h1, h2, h3⟩ := hS; go_simp)⟩) s1 ?_
      (try simp only [Act.put, List.setIfInBounds_toArray, List.set_cons_zero, List.set_cons_succ])
      refine wpAnyE_val (i := 2) (v := .slice (some ⟨b2, o2, none⟩) cn cc) (d := some 106) rfl rfl (by kernel_rfl) (by kernel_rfl) (by kernel_rfl) (by kernel_rfl) (fun _ _ _ h => h) (Or.inl ⟨by rfl, fun w hS => by (obtain ⟨h0, h1, h2, h3⟩ := hS; go_simp)⟩) s1 ?_
      (try simp only [Act.put, List.setIfInBounds_toArray, List.set_cons_zero, List.set_cons_succ])
      refine wpAnyE_val (i := 3) (v := .pointer (some ⟨b2, o2, none⟩)) (d := some 107) rfl rfl (by kernel_rfl) (by kernel_rfl) (by kernel_rfl) (by kernel_rfl) (fun _ _ _ h => h) (Or.inl ⟨by rfl, fun w hS => by (obtain ⟨h0, h1, h2, h3⟩ := hS; go_simp)⟩) s1 ?_
      (try simp only [Act.put, List.setIfInBounds_toArray, List.set_cons_zero, List.set_cons_succ])
      refine wpAnyE_val (i := 4) (v := .pointer (some ⟨b2, o2, none⟩)) (d := some 108) rfl rfl (by kernel_rfl) (by kernel_rfl) (by kernel_rfl) (by kernel_rfl) (fun _ _ _ h => h) (Or.inl ⟨by rfl, fun w hS => by (obtain ⟨h0, h1, h2, h3⟩ := hS; go_simp)⟩) s1 ?_
      (try simp only [Act.put, List.setIfInBounds_toArray, List.set_cons_zero, List.set_cons_succ])
      refine wpAnyE_val (i := 5) (v := .int .i64 kk) (d := some 109) rfl rfl (by kernel_rfl) (by kernel_rfl) (by kernel_rfl) (by kernel_rfl) (fun _ _ _ h => h) (Or.inl ⟨by rfl, fun w hS => by (obtain ⟨h0, h1, h2, h3⟩ := hS; go_simp)⟩) s1 ?_
      (try simp only [Act.put, List.setIfInBounds_toArray, List.set_cons_zero, List.set_cons_succ])
      refine wpAnyE_val (i := 6) (v := .agg #[.int .i64 kk, .int .i64 0]) (d := some 110) rfl rfl (by kernel_rfl) (by kernel_rfl) (by kernel_rfl) (by kernel_rfl) (fun _ _ _ h => h) (Or.inl ⟨by rfl, fun w hS => by (obtain ⟨h0, h1, h2, h3⟩ := hS; go_simp)⟩) s1 ?_
      (try simp only [Act.put, List.setIfInBounds_toArray, List.set_cons_zero, List.set_cons_succ])
      refine wpAnyE_val (i := 7) (v := .pointer (some ⟨hf, 2, none⟩)) (d := some 111) rfl rfl (by kernel_rfl) (by kernel_rfl) (by kernel_rfl) (by kernel_rfl) (fun _ _ _ h => h) (Or.inl ⟨by rfl, fun w hS => by (obtain ⟨h0, h1, h2, h3⟩ := hS; go_simp)⟩) s1 ?_
      (try simp only [Act.put, List.setIfInBounds_toArray, List.set_cons_zero, List.set_cons_succ])
      refine wpAnyE_val (i := 8) (v := .int .i64 lo) (d := some 112) rfl rfl (by kernel_rfl) (by kernel_rfl) (by kernel_rfl) (by kernel_rfl) (fun _ _ _ h => h) (Or.inl ⟨by rfl, fun w hS => by (obtain ⟨h0, h1, h2, h3⟩ := hS; go_simp)⟩) s1 ?_
      (try simp only [Act.put, List.setIfInBounds_toArray, List.set_cons_zero, List.set_cons_succ])
      refine wpAnyE_val (i := 9) (v := .pointer (some ⟨s, 0, none⟩)) (d := some 113) rfl rfl (by kernel_rfl) (by kernel_rfl) (by kernel_rfl) (by kernel_rfl) (fun _ _ _ h => h) (Or.inl ⟨by rfl, fun w hS => by (obtain ⟨h0, h1, h2, h3⟩ := hS; go_simp)⟩) s1 ?_
      (try simp only [Act.put, List.setIfInBounds_toArray, List.set_cons_zero, List.set_cons_succ])
      refine wpAnyE_val (i := 10) (v := .pointer (some ⟨hf, 1, none⟩)) (d := some 114) rfl rfl (by kernel_rfl) (by kernel_rfl) (by kernel_rfl) (by kernel_rfl) (fun _ _ _ h => h) (Or.inl ⟨by rfl, fun w hS => by (obtain ⟨h0, h1, h2, h3⟩ := hS; go_simp)⟩) s1 ?_
      (try simp only [Act.put, List.setIfInBounds_toArray, List.set_cons_zero, List.set_cons_succ])
      refine wpAnyE_val (i := 11) (v := .int .i64 bt) (d := some 115) rfl rfl (by kernel_rfl) (by kernel_rfl) (by kernel_rfl) (by kernel_rfl) (fun _ _ _ h => h) (Or.inl ⟨by rfl, fun w hS => by (obtain ⟨h0, h1, h2, h3⟩ := hS; go_simp)⟩) s1 ?_
      (try simp only [Act.put, List.setIfInBounds_toArray, List.set_cons_zero, List.set_cons_succ])
      refine wpAnyE_val (i := 12) (v := .int .i64 M) (d := some 116) rfl rfl (by kernel_rfl) (by kernel_rfl) (by kernel_rfl) (by kernel_rfl) (fun _ _ _ h => h) (Or.inl ⟨by rfl, fun w hS => by (obtain ⟨h0, h1, h2, h3⟩ := hS; go_simp)⟩) s1 ?_
      (try simp only [Act.put, List.setIfInBounds_toArray, List.set_cons_zero, List.set_cons_succ])
      refine wpAnyE_one (i := 13) rfl (by kernel_rfl) rfl ?_
      go_simp
      (with_reducible refine (HNX.out s B M _ (HS5.out.below (w' := w5.drew) (Below.refl _ _).drew hB5) hB HP.out.1 ?hM).mono ?_)
      case hM => (have h := HP.out.2; omega)
      rintro e w6 ⟨v6, rfl, hv60, hv61, hst6, hg6⟩
      have hx6 : Bk w6 hx 46 #[.int .i64 (d : Int), .slice none 0 0] := HX5.out.drew.grown hg6 (fun e => by injection e with e; exact hxs e)
      have hf6 : Bk w6 hf 66 #[.string fnm, .int .i64 bt, .int .i64 lo] := HH5.out.drew.grown hg6 (fun e => by injection e with e; exact hfs e)
      have hb2l : b2 < w5.heap.size := World.block_lt_of_cell? w5 _ HR5.out
      have hr6 : w6.cell? ⟨b2, o2, none⟩ = some (.int .i64 kk) := (World.cell?_of_block (w := w5.drew) (hg6.block b2 hb2l (fun e => by injection e with e; exact hb2s e))).trans HR5.out
      have hwv : IntKind.i64.wrap (lo + v6) = lo + v6 := by (have h := HP.out.2; exact wrap_small2 (by omega) (by omega))
      have hsz6 := hg6.size
      have hsz6' : w5.heap.size ≤ w6.heap.size := hsz6
      have s6 : w6.cell? ⟨hx, 1, none⟩ = some (.slice none 0 0) ∧ w6.cell? ⟨b2, o2, none⟩ = some (.int .i64 kk) ∧ w6.cell? ⟨hf, 1, none⟩ = some (.int .i64 bt) ∧ w6.cell? ⟨hf, 2, none⟩ = some (.int .i64 lo) := ⟨hx6.cell 1, hr6, hf6.cell 1, hf6.cell 2⟩
      refine And.intro (by first | exact s6 | exact fun _ => s6) ?_
      (try simp only [Act.put, List.setIfInBounds_toArray, List.set_cons_zero, List.set_cons_succ])
      refine wpAnyE_val (i := 14) (v := .int .i64 (lo + v6)) (d := some 118) rfl rfl (by kernel_rfl) (by kernel_rfl) (by kernel_rfl) (by kernel_rfl) (fun _ _ _ h => h) (Or.inl ⟨by rfl, fun w hS => by (obtain ⟨h0, h1, h2, h3⟩ := hS; go_simp)⟩) s6 ?_
      (try simp only [Act.put, List.setIfInBounds_toArray, List.set_cons_zero, List.set_cons_succ])
      refine wpAnyE_val (i := 15) (v := .agg #[.slice none 0 0, .int .i64 kk, .int .i64 0, .int .i64 (lo + v6)]) (d := some 119) rfl rfl (by kernel_rfl) (by kernel_rfl) (by kernel_rfl) (by kernel_rfl) (fun _ _ _ h => h) (Or.inl ⟨by rfl, fun w hS => by (obtain ⟨h0, h1, h2, h3⟩ := hS; go_simp)⟩) s6 ?_
      (try simp only [Act.put, List.setIfInBounds_toArray, List.set_cons_zero, List.set_cons_succ])
      refine wpAnyE_one (i := 16) rfl (by kernel_rfl) rfl ?_
      go_simp
      have s7 : (w6.alloc (.cells #[.slice none 0 0, .int .i64 kk, .int .i64 0, .int .i64 (lo + v6)] 158)).cell? ⟨hx, 1, none⟩ = some (.slice none 0 0) ∧ (w6.alloc (.cells #[.slice none 0 0, .int .i64 kk, .int .i64 0, .int .i64 (lo + v6)] 158)).cell? ⟨b2, o2, none⟩ = some (.int .i64 kk) ∧ (w6.alloc (.cells #[.slice none 0 0, .int .i64 kk, .int .i64 0, .int .i64 (lo + v6)] 158)).cell? ⟨hf, 1, none⟩ = some (.int .i64 bt) ∧ (w6.alloc (.cells #[.slice none 0 0, .int .i64 kk, .int .i64 0, .int .i64 (lo + v6)] 158)).cell? ⟨hf, 2, none⟩ = some (.int .i64 lo) := ⟨(hx6.alloc _).cell 1, cell_keep hr6 _, (hf6.alloc _).cell 1, (hf6.alloc _).cell 2⟩
      refine And.intro (by first | exact s7 | exact fun _ => s7) ?_
      (try simp only [Act.put, List.setIfInBounds_toArray, List.set_cons_zero, List.set_cons_succ])
      refine wpAnyE_if (i := 17) rfl (by kernel_rfl) rfl ?_
      refine step_append_one rfl (.tmp 105) (.tmp 120) 44 rfl w5.heap.size 158 i5 (.agg #[.slice none 0 0, .int .i64 0, .int .i64 0, .int .i64 0]) 4 48 Try.underlying44 hi5 hz50 hz51 hz52 rfl (by decide) (.slice none 0 0) 0 [] rfl (World.ownsRow_nil _ _ _ _) w6.heap.size 1 158 #[.slice none 0 0, .int .i64 kk, .int .i64 0, .int .i64 (lo + v6)] rfl (Bk.new w6 _ _) rfl ?c1 1 rfl ?c2 ?c3 ?c4 ?_
      case c1 => simp [Value.oneCell']
      case c2 => unfold maxLen; omega
      case c3 => omega
      case c4 => (simp; omega)
      intro g7 c7 w7 hown7 hg7 hat7
      have hx7 : Bk w7 hx 46 #[.int .i64 (d : Int), .slice none 0 0] := (hx6.alloc _).grown hg7 (fun e => by cases e)
      have hf7 : Bk w7 hf 66 #[.string fnm, .int .i64 bt, .int .i64 lo] := (hf6.alloc _).grown hg7 (fun e => by cases e)
      have hb26 : b2 < (w6.alloc (.cells #[.slice none 0 0, .int .i64 kk, .int .i64 0, .int .i64 (lo + v6)] 158)).heap.size := by simp; omega
      have hr7 : w7.cell? ⟨b2, o2, none⟩ = some (.int .i64 kk) := (World.cell?_of_block (hg7.block b2 hb26 (fun e => by cases e))).trans (cell_keep hr6 _)
      have s8 : w7.cell? ⟨hx, 1, none⟩ = some (.slice none 0 0) ∧ w7.cell? ⟨b2, o2, none⟩ = some (.int .i64 kk) ∧ w7.cell? ⟨hf, 1, none⟩ = some (.int .i64 bt) ∧ w7.cell? ⟨hf, 2, none⟩ = some (.int .i64 lo) := ⟨hx7.cell 1, hr7, hf7.cell 1, hf7.cell 2⟩
      have k1 : w7.cell? ⟨hx, 1, none⟩ = some (.slice none 0 0) := hx7.cell 1
      have k2 := hx7.frozen 1
      refine And.intro (by first | exact s8 | exact fun _ => s8) ?_
      (try simp only [Act.put, List.setIfInBounds_toArray])
      refine wpAnyE_val (i := 18) (v := .pointer (some ⟨hx, 1, none⟩)) (d := some 122) rfl rfl (by kernel_rfl) (by kernel_rfl) (by kernel_rfl) (by kernel_rfl) (fun _ _ _ h => h) (Or.inl ⟨by rfl, fun w hS => by (obtain ⟨h0, h1, h2, h3⟩ := hS; go_simp)⟩) s8 ?_
      (try simp only [Act.put])
      refine wpAnyE_one (i := 19) rfl (by kernel_rfl) rfl ?_
      go_simp
      refine wpAnyE_done (by kernel_rfl) ?_ _
      refine NoPanic.normal ?_
      have hqa : Fq [s] w0 (w7.setCell ⟨hx, 1, none⟩ (.slice (some ⟨g7, 0, none⟩) 1 c7)) := (((((HQ.out.trans (Fq.of_below HB5.out) (SubF.refl _ _)).drew).grown hg6 (fun g hg => .inl (by injection hg with hg; simp [hg]))).alloc _).grown hg7 (fun g hg => by cases hg)).set (.inr hhx) 1 _
      have hkx5 : Kx B [46, 158] w6 (w7.setCell ⟨hx, 1, none⟩ (.slice (some ⟨g7, 0, none⟩) 1 c7)) := (((Kx.refl (B := B)).alloc _).grown (F := [46, 158]) (World.ownsRow_nil _ B 158 4) hg7 (Nat.le_refl _) (by simp)).set hx7 (by omega) (by simp) 1 _
      have hkx7 : Kx 0 [46] w7 (w7.setCell ⟨hx, 1, none⟩ (.slice (some ⟨g7, 0, none⟩) 1 c7)) := (Kx.refl (B := 0)).set hx7 (Nat.zero_le _) (by simp) 1 _
      have hcp := own_cap2 hown7
      have hkx5' := hkx5
      have HP9 : Hid (Bk (w7.setCell ⟨hx, 1, none⟩ (.slice (some ⟨g7, 0, none⟩) 1 c7)) hx 46 #[.int .i64 (d : Int), .slice (some ⟨g7, 0, none⟩) 1 c7] ∧ OvsY (w7.setCell ⟨hx, 1, none⟩ (.slice (some ⟨g7, 0, none⟩) 1 c7)) 0 (some ⟨g7, 0, none⟩) 1 c7 [⟨none, 0, 0, [], (kk : Int), 0, lo + v6⟩] ∧ GoodOv (ks.map Kd.p) u.p (([⟨none, 0, 0, [], (kk : Int), 0, lo + v6⟩] : List Ov).map Ov.p) ∧ StrSt (w7.setCell ⟨hx, 1, none⟩ (.slice (some ⟨g7, 0, none⟩) 1 c7)) B s ∧ Fq [s] w0 (w7.setCell ⟨hx, 1, none⟩ (.slice (some ⟨g7, 0, none⟩) 1 c7))) := Lib.hid (by
        refine ⟨by simpa using hx7.set_ 1 (.slice (some ⟨g7, 0, none⟩) 1 c7), ⟨?_, rfl, hcp.1, hcp.2, fun z hz => ?_⟩, .inr ⟨kk, lo + v6, c0.vals, r.map Cm.p, dk, rfl, ?_, ?_, HF.out.2.2.2.2.1, ?_⟩, hst6.kx hkx5 (Nat.le_refl _) (by omega) (by decide), hqa⟩
        · exact (RdY.of_own hown7).keep hkx7 (by decide)
        · rw [List.mem_singleton.1 hz]
          exact ⟨RdY.nil_ _, rfl, Nat.le_refl _, by show (0 : Nat) ≤ _; omega, wf_i64 (by show _ ≤ ((kk : Nat) : Int); omega) (by show ((kk : Nat) : Int) ≤ _; omega), wf_i64 (by show _ ≤ (0 : Int); omega) (by show (0 : Int) ≤ _; omega), by have h := HP.out.2; exact wf_i64 (by show _ ≤ lo + v6; omega) (by show lo + v6 ≤ _; omega)⟩
        · show u.cms.map Cm.p = _
          rw [HCM.out, List.map_cons, ← HF.out.2.2.2.1]; rfl
        · intro e
          have h1 := HVN.out
          rw [e] at h1
          exact hvn0 h1
        · have h1 := HF.out.2.2.2.2.2
          refine holdK_set (f := f) h1 (by rw [HF.out.2.2.1]; exact HF.out.1) (by rw [HFV.out.2]; omega) ?_
          rw [HFV.out.2, HFV.out.1, Int.toNat_natCast, ← HM.out]; omega)
      exact hN _ _ _ _ _ _ _ _ _ _ _ _ _ _ _ _ _ _ _ _ _ _ _ _ _ _ _ _ _ _ _ _ _ _ _ _ _ _ _ _ _ _ _ _ _ _ _ _ _ _ _ _ _ HP9
end Go.Proofs.Ytnidcmhfbkdioaa
