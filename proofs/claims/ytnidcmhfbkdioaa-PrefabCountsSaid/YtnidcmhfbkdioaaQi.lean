/-
  The inner loop of PrefabCounts: the paths of a part's entities. Conditions: what is read can be read.
-/
import Derived.Test.YtnidcmhfbkdioaaPy
import Derived.Test.YtnidcmhfbkdioaaPn
namespace Go.Proofs.Ytnidcmhfbkdioaa
open Go.RowKit
set_option maxRecDepth 100000

noncomputable def pcInner : Code := (Try.f4.body.bind (findB 14)).getD .skip
/-- 'slices.Concat([]int{i}, path)', its blocks just laid. -/
theorem concat2_any {W1 : World} {i : Nat} {qA : Option Addr} {qn qc : Nat} {path : List Int} (hq : RdY W1 0 3 1 qA qn (path.map (Value.int .i64))) (hl : qn = path.length) (hc : qn ≤ qc) (hc2 : qc ≤ 9223372036854775807) (h100 : path.length ≤ 100) :
    Calls Try.prog 28 #[.slice (some ⟨W1.heap.size + 1, 0, none⟩) 2 2] (((W1.alloc (.cells #[.int .i64 (i : Int)] 3)).alloc (.cells #[.slice (some ⟨W1.heap.size, 0, none⟩) 1 1, .slice qA qn qc] 30)).drew) fun e w' => ∃ (A' : Option Addr) (c' : Nat), e = .returned (.slice A' (path.length + 1) c') ∧ Hid (RdY w' 0 3 1 A' (path.length + 1) (((i : Int) :: path).map (Value.int .i64))) ∧ Hid (Below W1.heap.size W1 w') := by
  have e1 : (((W1.alloc (.cells #[.int .i64 (i : Int)] 3)).alloc (.cells #[.slice (some ⟨W1.heap.size, 0, none⟩) 1 1, .slice qA qn qc] 30)).drew).heap.size = W1.heap.size + 2 := by simp
  have hk1 : Bk (((W1.alloc (.cells #[.int .i64 (i : Int)] 3)).alloc (.cells #[.slice (some ⟨W1.heap.size, 0, none⟩) 1 1, .slice qA qn qc] 30)).drew) W1.heap.size 3 #[.int .i64 (i : Int)] := ((Bk.new W1 _ _).alloc _).drew
  have hk2 : Bk (((W1.alloc (.cells #[.int .i64 (i : Int)] 3)).alloc (.cells #[.slice (some ⟨W1.heap.size, 0, none⟩) 1 1, .slice qA qn qc] 30)).drew) (W1.heap.size + 1) 30 #[.slice (some ⟨W1.heap.size, 0, none⟩) 1 1, .slice qA qn qc] := by
    have h := (Bk.new (W1.alloc (.cells #[.int .i64 (i : Int)] 3)) 30 #[.slice (some ⟨W1.heap.size, 0, none⟩) 1 1, .slice qA qn qc]).drew
    simpa using h
  have hbz : Below W1.heap.size W1 (((W1.alloc (.cells #[.int .i64 (i : Int)] 3)).alloc (.cells #[.slice (some ⟨W1.heap.size, 0, none⟩) 1 1, .slice qA qn qc] 30)).drew) := (((Below.refl _ _).alloc (Nat.le_refl _) _).alloc (by simp) _).drew
  have hkz : Kx 0 [] W1 (((W1.alloc (.cells #[.int .i64 (i : Int)] 3)).alloc (.cells #[.slice (some ⟨W1.heap.size, 0, none⟩) 1 1, .slice qA qn qc] 30)).drew) := Kx.of_below hbz
  have hcat : catS [⟨some ⟨W1.heap.size, 0, none⟩, 1, 1, [(i : Int)]⟩, ⟨qA, qn, qc, path⟩] = (i : Int) :: path := by simp [catS]
  obtain ⟨WZ, hWZ⟩ : ∃ WZ, WZ = ((W1.alloc (.cells #[.int .i64 (i : Int)] 3)).alloc (.cells #[.slice (some ⟨W1.heap.size, 0, none⟩) 1 1, .slice qA qn qc] 30)).drew := ⟨_, rfl⟩
  rw [← hWZ] at e1 hk1 hk2 hbz hkz ⊢
  clear hWZ
  have h1 : Rd WZ WZ.heap.size 1 (some ⟨W1.heap.size + 1, 0, none⟩) 2 (sgCs [⟨some ⟨W1.heap.size, 0, none⟩, 1, 1, [(i : Int)]⟩, ⟨qA, qn, qc, path⟩]) := (RdY.of_bk (B := 0) (n := 2) (size := 1) hk2 rfl (fun j u hu => by simpa [sgCs] using hu)).rd
  have h2 : SgOk WZ WZ.heap.size ⟨some ⟨W1.heap.size, 0, none⟩, 1, 1, [(i : Int)]⟩ := ⟨(RdY.of_bk (B := 0) (n := 1) (size := 1) (xs := [Value.int .i64 (i : Int)]) hk1 rfl (fun j u hu => by simpa using hu)).rd, rfl, Nat.le_refl _, by show (1 : Nat) ≤ _; omega⟩
  have h3 : SgOk WZ WZ.heap.size ⟨qA, qn, qc, path⟩ := ⟨(hq.keep hkz (by simp)).rd, hl, hc, hc2⟩
  have hcc := concat_any (w := WZ) (B := WZ.heap.size) (n := 2) (c := 2) (A := some ⟨W1.heap.size + 1, 0, none⟩) (l := [⟨some ⟨W1.heap.size, 0, none⟩, 1, 1, [(i : Int)]⟩, ⟨qA, qn, qc, path⟩]) h1 rfl (Nat.le_refl _) (by omega)
    (fun x hx => by
      rcases List.mem_cons.1 hx with rfl | hx
      · exact h2
      · rw [List.mem_singleton.1 hx]; exact h3)
    (Nat.le_refl _) (by rw [hcat]; simp) (by rw [hcat, List.length_cons]; omega)
  rw [hcat] at hcc
  refine hcc.mono fun e w' h => ?_
  obtain ⟨A', c', h4, h5, h6⟩ := h
  exact ⟨A', c', h4, Lib.hid (RdY.of_own h5.out), Lib.hid (hbz.trans (h6.mono (by omega)))⟩

set_option maxHeartbeats 8000000 in
theorem pcInner_any {x0 x1 x2 x3 x4 x5 x6 x8 x11 x13 x14 x15 x16 x17 x18 x19 x20 x21 x22 x23 x24 x25 x26 x27 x28 x29 x30 x31 x32 x33 x34 x35 x36 x37 x38 x39 x40 x41 x42 x43 x44 x45 x46 x47 x48 x49 x50 x51 x52 x53 x54 x55 x56 x57 x58 x59 x60 x61 x62 x63 x64 x65 x66 x67 x68 x69 x70 x71 x72 x73 x74 x75 x76 x77 x78 x79 x80 x81 x82 x83 x84 x85 x86 x87 x88 x89 x90 x91 x92 x93 x94 x95 x96 x97 x98 x99 x100 x101 x102 x103 x104 x105 x106 x107 x108 x109 x110 x111 x112 x113 x114 : Value} {Q : Exit → Act → World → Prop} {w4 wi : World} {base base2 a i bn bc sn sc : Nat} {bA sA : Option Addr} {ks : List Kd} {lb sub : List Bt}
    (hL : BuI w4 base ks bA bn bc lb) (hb4 : Below w4.heap.size w4 wi) (hS : BuI wi base2 ks sA sn sc sub) (ha : a + sn ≤ bn) (hbn : bn ≤ 1000)
    (hpath : ∀ (j : Nat) (x : Bt), sub[j]? = some x → ∃ y, lb[a + j]? = some y ∧ y.path = (i : Int) :: x.path) (h100 : ∀ x ∈ sub, x.path.length ≤ 100)
    (hN : ∀ (y4 y14 y15 y83 y84 y85 y86 y87 y88 y89 y90 y91 y92 y93 y94 y95 y96 y97 y98 y99 y100 y101 y102 y103 y104 y105 : Value) (w' : World), Hid (Below wi.heap.size wi w') → Q .normal ⟨#[x0, x1, x2, x3, y4, x5, x6, .slice bA bn bc, x8, .int .i64 (a : Int), .int .i64 (i : Int), x11, .slice sA sn sc, x13, y14, y15, x16, x17, x18, x19, x20, x21, x22, x23, x24, x25, x26, x27, x28, x29, x30, x31, x32, x33, x34, x35, x36, x37, x38, x39, x40, x41, x42, x43, x44, x45, x46, x47, x48, x49, x50, x51, x52, x53, x54, x55, x56, x57, x58, x59, x60, x61, x62, x63, x64, x65, x66, x67, x68, x69, x70, x71, x72, x73, x74, x75, x76, x77, x78, x79, x80, x81, x82, y83, y84, y85, y86, y87, y88, y89, y90, y91, y92, y93, y94, y95, y96, y97, y98, y99, y100, y101, y102, y103, y104, y105, x106, x107, x108, x109, x110, x111, x112, x113, x114], []⟩ w') :
    Code.wp Try.prog pcInner Q ⟨#[x0, x1, x2, x3, x4, x5, x6, .slice bA bn bc, x8, .int .i64 (a : Int), .int .i64 (i : Int), x11, .slice sA sn sc, x13, x14, x15, x16, x17, x18, x19, x20, x21, x22, x23, x24, x25, x26, x27, x28, x29, x30, x31, x32, x33, x34, x35, x36, x37, x38, x39, x40, x41, x42, x43, x44, x45, x46, x47, x48, x49, x50, x51, x52, x53, x54, x55, x56, x57, x58, x59, x60, x61, x62, x63, x64, x65, x66, x67, x68, x69, x70, x71, x72, x73, x74, x75, x76, x77, x78, x79, x80, x81, x82, x83, x84, x85, x86, x87, x88, x89, x90, x91, x92, x93, x94, x95, x96, x97, x98, x99, x100, x101, x102, x103, x104, x105, x106, x107, x108, x109, x110, x111, x112, x113, x114], []⟩ wi := by
  conv => arg 2; whnf
  have hbcap := own_cap2 hL.own
  have hbc1 := hbcap.1
  have hbc2 := hbcap.2
  have hscap := own_cap2 hS.own
  have hsc1 := hscap.1
  have hsc2 := hscap.2
  have HL := Lib.hid hL
  have HB4 := Lib.hid hb4
  have HSB := Lib.hid hS
  have HPT := Lib.hid hpath
  have H100 := Lib.hid h100
  clear hL hb4 hS hpath h100 hbcap hscap
  go_wp2_with fail
  go_loopw [85] (fun jv wx => ∃ (j : Nat), j ≤ sn ∧ jv = .int .i64 j ∧ Hid (Below wi.heap.size wi wx)) (fun jv _ => sn - (intOf jv).toNat)
  case atStart => exact ⟨0, Nat.zero_le _, rfl, Lib.hid (Below.refl _ _)⟩
  case round =>
    obtain ⟨j, hj, rfl, HWJ⟩ := hrel
    by_cases hjl : j < sn
    · have hjz : (j : Int) < sn := by omega
      have hjz0 : (0 : Int) ≤ j := by omega
      obtain ⟨sx, hsx⟩ : ∃ sx, sub[j]? = some sx := ⟨_, List.getElem?_eq_getElem (by have := HSB.out.len; omega)⟩
      have hsm := List.mem_of_getElem? hsx
      have hkj : Kx 0 [] wi wr := Kx.of_below HWJ.out
      obtain ⟨bS, oS, rfl, hbS, q0, q1⟩ := Rd.btS (hkj.own HSB.out.own (by simp)) hjl hsx
      have hsy := (HSB.out.ys.keep hkj (by simp) (by simp)).ok sx hsm
      obtain ⟨bx, hbx, hpe⟩ := HPT.out j sx hsx
      obtain ⟨K, hK⟩ : ∃ K, K = a + j := ⟨_, rfl⟩
      have HADD : Hid (wrap64 ((a : Int) + (j : Int)) = (K : Int)) := Lib.hid (by rw [hK]; unfold wrap64; omega)
      have HADD2 : Hid (IntKind.i64.wrap ((a : Int) + (j : Int)) = (K : Int)) := Lib.hid (by rw [IntKind.wrap_i64, hK]; omega)
      have hKb : K < bn := by omega
      have hKz : (K : Int) < bn := by omega
      have hKz0 : (0 : Int) ≤ K := by omega
      rw [← hK] at hbx
      have hb4r : Below w4.heap.size w4 wr := HB4.out.trans (HWJ.out.mono HB4.out.size)
      have hk4 : Kx 0 [] w4 wr := Kx.of_below hb4r
      have hby := (HL.out.ys.keep hk4 (by simp) (by simp)).ok bx (List.mem_of_getElem? hbx)
      obtain ⟨bB, oB, rfl, hb9, r0, r1⟩ := Rd.btS (hk4.own HL.out.own (by simp)) hKb hbx
      obtain ⟨W1, hW1⟩ : ∃ W1, W1 = wr.alloc (.cells #[.slice sx.pA sx.pn sx.pc, .slice sx.cA sx.cn sx.cc] 40) := ⟨_, rfl⟩
      obtain ⟨hs, hhs⟩ : ∃ hs, hs = wr.heap.size := ⟨_, rfl⟩
      have hbw1 : Below wr.heap.size wr W1 := by rw [hW1]; exact (Below.refl _ _).alloc (Nat.le_refl _) _
      have hhk : Bk W1 hs 40 #[.slice sx.pA sx.pn sx.pc, .slice sx.cA sx.cn sx.cc] := by rw [hW1, hhs]; exact Bk.new _ _ _
      have HB6W : Hid (Below wi.heap.size wi W1) := Lib.hid (HWJ.out.trans (hbw1.mono HWJ.out.size))
      have hsy1 := hsy.keep (F := []) (Kx.of_below hbw1) (by simp) (by simp)
      have hby1 := hby.keep (F := []) (Kx.of_below hbw1) (by simp) (by simp)
      have hbl : bB < W1.heap.size := by have := hbw1.size; omega
      have r0' : W1.cell? ⟨bB, oB + K * 2, none⟩ = some (.slice bx.pA bx.pn bx.pc) := (World.cell?_of_block (w := wr) (hbw1.block bB hb9)).trans r0
      have HS5 : Hid (∀ wz, Below W1.heap.size W1 wz → wz.cell? ⟨bB, oB + K * 2, none⟩ = some (.slice bx.pA bx.pn bx.pc) ∧ wz.cell? ⟨hs, 0, none⟩ = some (.slice sx.pA sx.pn sx.pc)) := Lib.hid fun wz hz => ⟨(World.cell?_of_block (w := W1) (hz.block bB hbl)).trans r0', (hhk.below hz hhk.lt).cell 0⟩
      have HCC := Lib.hid (concat2_any (i := i) hsy1.rd hsy1.len hsy1.cap hsy1.cap2 (H100.out sx hsm))
      have HEQ : Hid (∀ (wz : World) (A' : Option Addr) (c' : Nat), Below W1.heap.size W1 wz → RdY wz 0 3 1 A' (sx.path.length + 1) (((i : Int) :: sx.path).map (Value.int .i64)) → Calls Try.prog 27 #[.slice bx.pA bx.pn bx.pc, .slice A' (sx.path.length + 1) c'] wz fun e w' => e = .returned (.bool true) ∧ ∃ m, wz.drewN m = w') := Lib.hid fun wz A' c' hz ho => by
        have h := equalInts_any bx.pA A' bx.pn bx.pc (sx.path.length + 1) c' wz.heap.size bx.path ((i : Int) :: sx.path) wz hby1.len rfl (Nat.le_trans hby1.cap hby1.cap2) ((hby1.rd.keep (F := []) (Kx.of_below hz) (by simp)).rd) ho.rd
        rw [decide_eq_true hpe] at h
        exact h
      have HW1 := Lib.hid (And.intro hW1 hhs)
      have s5 := HS5.out W1.drew (Below.refl _ _).drew
      clear hsx hsm hkj hbS hsy hK hbx hpe hb4r hk4 hby hb9 r0 r1 hbw1 hhk hsy1 hby1 hbl r0' HWJ hW1 hhs
      generalize bx.pA = bpA at *
      generalize bx.pn = bpn at *
      generalize bx.pc = bpc at *
      generalize sx.pA = qA at *
      generalize sx.pn = qn at *
      generalize sx.pc = qc at *
      generalize sx.cA = qcA at *
      generalize sx.cn = qcn at *
      generalize sx.cc = qcc at *
      generalize sx.path.length + 1 = N1 at *
      go_upto_region 16 with fail
      go_cut [14, 15] from 87 to 89 (fun s14 s15 wx => s14 = .int .i64 (j : Int) ∧ s15 = .pointer (some ⟨hs, 0, none⟩) ∧ wx = W1)
      case first =>
        go_wp2_with fail
        go_meet
        case rel => exact ⟨rfl, by rw [HW1.out.2], HW1.out.1.symm⟩
      case rest =>
        obtain ⟨rfl, rfl, rfl⟩ := hcut
        obtain ⟨W1, rfl⟩ : ∃ q, q = wc := ⟨_, rfl⟩
        clear q0 q1 HW1
        go_upto_region 17 with fail
        go_cut [104] from 90 to 103 (fun s104 wx => s104 = .bool false ∧ Hid (Below W1.heap.size W1 wx))
        case first =>
          refine wp_region_noPanic ?_
          refine wp_region_H (S := fun wz => wz.cell? ⟨bB, oB + K * 2, none⟩ = some (.slice bpA bpn bpc) ∧ wz.cell? ⟨hs, 0, none⟩ = some (.slice qA qn qc)) (by kernel_rfl) ?_
          refine wpAnyH_val (i := 0) (v := .slice (some ⟨bB, oB, none⟩) bn bc) (d := some 90) rfl rfl (by kernel_rfl) (by kernel_rfl) (by kernel_rfl) (fun _ _ _ h => h) (Or.inl ⟨by rfl, fun w hS => by (obtain ⟨h0, h1⟩ := hS; go_simp)⟩) s5 ?_
          (try simp only [Act.put, List.setIfInBounds_toArray, List.set_cons_zero, List.set_cons_succ])
          refine wpAnyH_val (i := 1) (v := .int .i64 (a : Int)) (d := some 91) rfl rfl (by kernel_rfl) (by kernel_rfl) (by kernel_rfl) (fun _ _ _ h => h) (Or.inl ⟨by rfl, fun w hS => by (obtain ⟨h0, h1⟩ := hS; go_simp)⟩) s5 ?_
          (try simp only [Act.put, List.setIfInBounds_toArray, List.set_cons_zero, List.set_cons_succ])
          refine wpAnyH_val (i := 2) (v := .int .i64 (j : Int)) (d := some 92) rfl rfl (by kernel_rfl) (by kernel_rfl) (by kernel_rfl) (fun _ _ _ h => h) (Or.inl ⟨by rfl, fun w hS => by (obtain ⟨h0, h1⟩ := hS; go_simp)⟩) s5 ?_
          (try simp only [Act.put, List.setIfInBounds_toArray, List.set_cons_zero, List.set_cons_succ])
          refine wpAnyH_val (i := 3) (v := .int .i64 (K : Int)) (d := some 93) rfl rfl (by kernel_rfl) (by kernel_rfl) (by kernel_rfl) (fun _ _ _ h => h) (Or.inl ⟨by rfl, fun w hS => by (have hadd := HADD.out; have hadd2 := HADD2.out; obtain ⟨h0, h1⟩ := hS; go_simp)⟩) s5 ?_
          (try simp only [Act.put, List.setIfInBounds_toArray, List.set_cons_zero, List.set_cons_succ])
          refine wpAnyH_val (i := 4) (v := .pointer (some ⟨bB, oB + K * 2, none⟩)) (d := some 94) rfl rfl (by kernel_rfl) (by kernel_rfl) (by kernel_rfl) (fun _ _ _ h => h) (Or.inl ⟨by rfl, fun w hS => by (obtain ⟨h0, h1⟩ := hS; go_simp)⟩) s5 ?_
          (try simp only [Act.put, List.setIfInBounds_toArray, List.set_cons_zero, List.set_cons_succ])
          refine wpAnyH_val (i := 5) (v := .pointer (some ⟨bB, oB + K * 2, none⟩)) (d := some 95) rfl rfl (by kernel_rfl) (by kernel_rfl) (by kernel_rfl) (fun _ _ _ h => h) (Or.inl ⟨by rfl, fun w hS => by (obtain ⟨h0, h1⟩ := hS; go_simp)⟩) s5 ?_
          (try simp only [Act.put, List.setIfInBounds_toArray, List.set_cons_zero, List.set_cons_succ])
          refine wpAnyH_val (i := 6) (v := .slice bpA bpn bpc) (d := some 96) rfl rfl (by kernel_rfl) (by kernel_rfl) (by kernel_rfl) (fun _ _ _ h => h) (Or.inl ⟨by rfl, fun w hS => by (obtain ⟨h0, h1⟩ := hS; go_simp)⟩) s5 ?_
          (try simp only [Act.put, List.setIfInBounds_toArray, List.set_cons_zero, List.set_cons_succ])
          refine wpAnyH_val (i := 7) (v := .int .i64 (i : Int)) (d := some 97) rfl rfl (by kernel_rfl) (by kernel_rfl) (by kernel_rfl) (fun _ _ _ h => h) (Or.inl ⟨by rfl, fun w hS => by (obtain ⟨h0, h1⟩ := hS; go_simp)⟩) s5 ?_
          (try simp only [Act.put, List.setIfInBounds_toArray, List.set_cons_zero, List.set_cons_succ])
          refine wpAnyH_val (i := 9) (v := .pointer (some ⟨hs, 0, none⟩)) (d := some 99) rfl rfl (by kernel_rfl) (by kernel_rfl) (by kernel_rfl) (fun _ _ _ h => h) (Or.inl ⟨by rfl, fun w hS => by (obtain ⟨h0, h1⟩ := hS; go_simp)⟩) s5 ?_
          (try simp only [Act.put, List.setIfInBounds_toArray, List.set_cons_zero, List.set_cons_succ])
          refine wpAnyH_val (i := 10) (v := .slice qA qn qc) (d := some 100) rfl rfl (by kernel_rfl) (by kernel_rfl) (by kernel_rfl) (fun _ _ _ h => h) (Or.inl ⟨by rfl, fun w hS => by (obtain ⟨h0, h1⟩ := hS; go_simp)⟩) s5 ?_
          (try simp only [Act.put, List.setIfInBounds_toArray, List.set_cons_zero, List.set_cons_succ])
          refine wpAnyH_oneW (i := 8) rfl (by kernel_rfl) (by rfl) ?_
          go_simp
          refine And.intro (by first | exact HS5.out _ ((Below.refl _ _).alloc (Nat.le_refl _) _) | exact HS5.out _ (((Below.refl _ _).drew).alloc (Nat.le_refl _) _) | exact HS5.out _ (((Below.refl _ _).alloc (Nat.le_refl _) _).drew)) ?_
          (try simp only [Act.put, List.setIfInBounds_toArray, List.set_cons_zero, List.set_cons_succ])
          refine wpAnyH_oneW (i := 11) rfl (by kernel_rfl) (by rfl) ?_
          go_simp
          refine And.intro (by first | exact HS5.out _ (((Below.refl _ _).alloc (Nat.le_refl _) _).alloc (by simp) _) | exact HS5.out _ ((((Below.refl _ _).alloc (Nat.le_refl _) _).alloc (by simp) _).drew)) ?_
          (try simp only [Act.put, List.setIfInBounds_toArray, List.set_cons_zero, List.set_cons_succ])
          refine wpAnyH_oneW (i := 12) rfl (by kernel_rfl) (by rfl) ?_
          go_simp
          go_at_call 28
          (with_reducible refine (HCC.out).mono ?_)
          rintro e w6 ⟨A6, c6, rfl, hown6, hb6⟩
          have HA6 : Hid (Below W1.heap.size W1 w6) := hb6
          have s6 := HS5.out _ HA6.out
          refine And.intro s6 ?_
          (try simp only [Act.put, List.setIfInBounds_toArray, List.set_cons_zero, List.set_cons_succ])
          refine wpAnyH_oneW (i := 13) rfl (by kernel_rfl) (by rfl) ?_
          go_simp
          go_at_call 27
          (with_reducible refine (HEQ.out w6 A6 c6 HA6.out hown6.out).mono ?_)
          rintro e w7 ⟨rfl, m7, rfl⟩
          have HA7 : Hid (Below W1.heap.size W1 (w6.drewN m7)) := Lib.hid (below_dn HA6.out m7)
          have s7 := HS5.out _ HA7.out
          refine And.intro s7 ?_
          (try simp only [Act.put, List.setIfInBounds_toArray, List.set_cons_zero, List.set_cons_succ])
          refine wpAnyH_val (i := 14) (v := .bool false) (d := some 104) rfl rfl (by kernel_rfl) (by kernel_rfl) (by kernel_rfl) (fun _ _ _ h => h) (Or.inl ⟨by rfl, fun w hS => by (obtain ⟨h0, h1⟩ := hS; go_simp)⟩) s7 ?_
          (try simp only [Act.put, List.setIfInBounds_toArray, List.set_cons_zero, List.set_cons_succ])
          refine wpAnyH_done (by kernel_rfl) ?_ _
          refine NoPanic.normal ?_
          go_wp2_with fail
          go_meet
          case rel => exact ⟨rfl, HA7⟩
        case rest =>
          obtain ⟨rfl, HBC⟩ := hcut
          have HBN6 : Hid (Below wi.heap.size wi wc) := Lib.hid (HB6W.out.trans (HBC.out.mono HB6W.out.size))
          clear s5 HS5 HCC HEQ HBC
          go_wp2_with fail
          go_roundw
          case measure => simp [intOf]; omega
          case rel => exact ⟨j + 1, hjl, by go_num, HBN6⟩
    · obtain rfl : j = sn := by omega
      go_wp2_with fail
      first
        | exact HWJ
        | exact hN _ _ _ _ _ _ _ _ _ _ _ _ _ _ _ _ _ _ _ _ _ _ _ _ _ _ _ HWJ
end Go.Proofs.Ytnidcmhfbkdioaa
