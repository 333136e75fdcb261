/-
  Lemmas for the walk, merged (Bp Bq Br Bs Bt Bu Kr). No condition but those in each statement.
-/
import Derived.BigQuiet
import Derived.Test.YtnidcmhfbkdioaaSk17
import Derived.Test.YtnidcmhfbkdioaaSk20
import Derived.Test.YtnidcmhfbkdioaaSk13
import Derived.Test.YtnidcmhfbkdioaaSk4
import Derived.Test.YtnidcmhfbkdioaaSk14
namespace Go.Proofs.Ytnidcmhfbkdioaa
/-! ### Bp -/
open Go.RowKit
set_option maxRecDepth 100000
noncomputable def soCon : Code := (Try.f57.body.bind (blkN 3)).getD .skip
/-- A contact with its bodies' places instead of their slots. -/
def ctR1 (en : List (Int × Int)) (c : Ct) : List Ct := if slotI en c.a < 0 ∨ slotI en c.b < 0 then [] else [{ c with a := slotI en c.a, b := slotI en c.b }]
set_option maxHeartbeats 8000000 in
theorem soCon_any {x0 x1 x2 x3 x4 x5 x6 x7 x9 x10 x11 x12 x13 x15 x16 x17 x18 x19 x20 x21 x22 x23 x24 x25 x26 x27 x28 x29 x30 x31 x32 x33 x34 x35 x36 x37 x38 x39 x40 x41 x42 x43 x44 x45 x46 x47 x48 x49 x50 x51 x53 x55 x56 x57 x58 x59 x60 x61 x62 x63 x64 x65 x66 x67 x68 x69 x70 x71 x72 x73 x74 x75 x76 x77 x78 x79 x80 x81 x82 x83 x84 : Value} {Q : Exit → Act → World → Prop} {w0 : World} {B base sA eA n ec cn cc j kn kc : Nat} {cA kA E : Option Addr} {cl D : List Ct} {ct : Ct} {en : List (Int × Int)} {V0 V1 V2 V3 : Value}
    (hrd : Rd w0 B 10 cA cn (ctCs cl)) (hcl : cn = cl.length) (_hcap : cn ≤ cc) (_hcap2 : cc ≤ 9223372036854775807) (hj : cl[j]? = some ct) (he : Bk w0 eA 116 #[.slice E n ec]) (hen : w0.ownsRow base 128 2 (.slice E n ec) n (enCs en)) (hel : n = en.length)
    (hS : Bk w0 sA 115 #[V0, .slice none 0 0, .slice kA kn kc, V1, V2, V3]) (hO : w0.ownsRow base 131 10 (.slice kA kn kc) kn (ctCs D)) (hkn : (kn + 1) * 80 ≤ 140737488355328) (hbase : base ≤ w0.heap.size) (hsA : base ≤ sA)
    (hN : ∀ (y16 y17 y18 y56 y57 y58 y59 y60 y61 y62 y63 y64 y65 y66 y67 y68 y69 y70 y71 y72 y73 y74 y75 y76 y77 y78 y79 y80 y81 : Value) (w' : World), Hid ((∃ kA' kn' kc', Bk w' sA 115 #[V0, .slice none 0 0, .slice kA' kn' kc', V1, V2, V3] ∧ w'.ownsRow base 131 10 (.slice kA' kn' kc') kn' (ctCs (D ++ ctR1 en ct)) ∧ kn' ≤ kn + 1) ∧ Kz [131, 115] w0 w' ∧ Below base w0 w' ∧ ∀ g cs, g ≠ sA → Bk w0 g 115 cs → Bk w' g 115 cs) → Q .normal ⟨#[x0, x1, x2, x3, x4, x5, x6, x7, .pointer (some ⟨sA, 0, none⟩), x9, x10, x11, x12, x13, .func (.func 137) #[] #[.pointer (some ⟨eA, 0, none⟩)], x15, y16, y17, y18, x19, x20, x21, x22, x23, x24, x25, x26, x27, x28, x29, x30, x31, x32, x33, x34, x35, x36, x37, x38, x39, x40, x41, x42, x43, x44, x45, x46, x47, x48, x49, x50, x51, .slice cA cn cc, x53, .int .i64 (j : Int), x55, y56, y57, y58, y59, y60, y61, y62, y63, y64, y65, y66, y67, y68, y69, y70, y71, y72, y73, y74, y75, y76, y77, y78, y79, y80, y81, x82, x83, x84], []⟩ w') :
    Code.wp Try.prog soCon Q ⟨#[x0, x1, x2, x3, x4, x5, x6, x7, .pointer (some ⟨sA, 0, none⟩), x9, x10, x11, x12, x13, .func (.func 137) #[] #[.pointer (some ⟨eA, 0, none⟩)], x15, x16, x17, x18, x19, x20, x21, x22, x23, x24, x25, x26, x27, x28, x29, x30, x31, x32, x33, x34, x35, x36, x37, x38, x39, x40, x41, x42, x43, x44, x45, x46, x47, x48, x49, x50, x51, .slice cA cn cc, x53, .int .i64 (j : Int), x55, x56, x57, x58, x59, x60, x61, x62, x63, x64, x65, x66, x67, x68, x69, x70, x71, x72, x73, x74, x75, x76, x77, x78, x79, x80, x81, x82, x83, x84], []⟩ w0 := by
  conv => arg 2; whnf
  obtain ⟨iC, hiC, hC0, hC1, hC2⟩ := info_parts T.info131
  have hjn : j < cn := by rw [hcl]; exact (List.getElem?_eq_some_iff.1 hj).1
  obtain ⟨bi, oi, hcA, hbi, q0, q1, q2, q3, q4, q5, q6, q7, q8, q9⟩ := Rd.ct hrd hjn hj
  subst hcA
  have hjz : (j : Int) < cn := by omega
  have hjz0 : (0 : Int) ≤ j := by omega
  obtain ⟨ca, hca⟩ : ∃ z, z = w0.heap.size := ⟨_, rfl⟩
  obtain ⟨W1, hW1⟩ : ∃ z, z = w0.alloc (.cells #[.int .i64 ct.a, .int .i64 ct.b, .int .i64 ct.id, .int .i64 ct.px, .int .i64 ct.py, .int .i64 ct.nx, .int .i64 ct.ny, .int .i64 ct.dp, .int .i64 ct.ps, .int .i64 ct.sl] 131) := ⟨_, rfl⟩
  have hb1 : Below w0.heap.size w0 W1 := by rw [hW1]; exact (Below.refl _ _).alloc (Nat.le_refl _) _
  have HCA : Hid (Bk W1 ca 131 #[.int .i64 ct.a, .int .i64 ct.b, .int .i64 ct.id, .int .i64 ct.px, .int .i64 ct.py, .int .i64 ct.nx, .int .i64 ct.ny, .int .i64 ct.dp, .int .i64 ct.ps, .int .i64 ct.sl]) := Lib.hid (by rw [hW1, hca]; exact Bk.new _ _ _)
  have HS1 : Hid (Bk W1 sA 115 #[V0, .slice none 0 0, .slice kA kn kc, V1, V2, V3]) := Lib.hid (hS.below hb1 hS.lt)
  have HO1 : Hid (W1.ownsRow base 131 10 (.slice kA kn kc) kn (ctCs D)) := Lib.hid ((Kx.of_below (B := 0) (F := []) hb1).own hO (by simp))
  have HNE : Hid ((Value.slice kA kn kc).ownBlock ≠ some ca) := Lib.hid (by
    intro e
    have := (hO.lt ca e).2
    omega)
  have hen1 := (Kx.of_below (B := 0) (F := []) hb1).own hen (by simp)
  have he1 := he.below hb1 he.lt
  obtain ⟨hec, hec2⟩ := own_cap2 hen1
  obtain ⟨va, hva⟩ : ∃ z, z = slotI en ct.a := ⟨_, rfl⟩
  obtain ⟨vb, hvb⟩ : ∃ z, z = slotI en ct.b := ⟨_, rfl⟩
  have HSL : Hid (∀ v, Below W1.heap.size W1 v → ∀ N, Calls Try.prog 137 #[.int .i64 N, .pointer (some ⟨eA, 0, none⟩)] v fun e w' => e = .returned (.int .i64 (slotI en N)) ∧ Below v.heap.size v w') := Lib.hid fun v hv N =>
    slotI_any N ((RdP.of_own hen1).rd.below hv) hel hec hec2 hv.size (he1.below hv he1.lt)
  have HV : Hid (va = slotI en ct.a ∧ vb = slotI en ct.b) := Lib.hid ⟨hva, hvb⟩
  have HB1 : Hid (Kz [131, 115] w0 W1 ∧ Below base w0 W1 ∧ ∀ g cs, g ≠ sA → Bk w0 g 115 cs → Bk W1 g 115 cs) := Lib.hid ⟨Kz.of_below hb1, hb1.mono hbase, fun g cs _ h => h.below hb1 h.lt⟩
  have HSZ : Hid (base ≤ W1.heap.size ∧ base ≤ ca) := Lib.hid ⟨Nat.le_trans hbase hb1.size, by rw [hca]; exact hbase⟩
  clear hrd hcl hj hS hO hb1 hbi he hen hel hen1 he1 hec hec2 hva hvb
  go_upto_region 15 with fail
  rw [← hW1, ← hca]
  clear q0 q1 q2 q3 q4 q5 q6 q7 q8 q9 hW1 hca
  obtain ⟨u0, hu0⟩ : ∃ z, z = W1.drew := ⟨_, rfl⟩
  have HBu0 : Hid (Below W1.heap.size W1 u0) := Lib.hid (by rw [hu0]; exact (Below.refl _ _).drew)
  have HS2 : Hid (∀ wz, Below W1.heap.size W1 wz → wz.cell? ⟨ca, 0, none⟩ = some (.int .i64 ct.a) ∧ wz.cell? ⟨ca, 1, none⟩ = some (.int .i64 ct.b)) := Lib.hid fun wz h => ⟨(HCA.out.below h HCA.out.lt).cell 0, (HCA.out.below h HCA.out.lt).cell 1⟩
  refine wp_region_noPanic ?_
  refine wp_region_H (S := fun wz => wz.cell? ⟨ca, 0, none⟩ = some (.int .i64 ct.a) ∧ wz.cell? ⟨ca, 1, none⟩ = some (.int .i64 ct.b)) (by kernel_rfl) ?_
  rw [← hu0]
  clear hu0
  refine wpAnyH_val (i := 0) (v := .func (.func 137) #[] #[.pointer (some ⟨eA, 0, none⟩)]) (d := some 58) rfl rfl (by kernel_rfl) (by kernel_rfl) (by kernel_rfl) (fun _ _ _ h => h) (Or.inl ⟨by rfl, fun w hS => by (obtain ⟨h0, h1⟩ := hS; go_simp)⟩) (HS2.out _ HBu0.out) ?_
  (try simp only [Act.put, List.setIfInBounds_toArray, List.set_cons_zero, List.set_cons_succ])
  refine wpAnyH_val (i := 1) (v := .pointer (some ⟨ca, 0, none⟩)) (d := some 59) rfl rfl (by kernel_rfl) (by kernel_rfl) (by kernel_rfl) (fun _ _ _ h => h) (Or.inl ⟨by rfl, fun w hS => by (obtain ⟨h0, h1⟩ := hS; go_simp)⟩) (HS2.out _ HBu0.out) ?_
  (try simp only [Act.put, List.setIfInBounds_toArray, List.set_cons_zero, List.set_cons_succ])
  refine wpAnyH_val (i := 2) (v := .int .i64 ct.a) (d := some 60) rfl rfl (by kernel_rfl) (by kernel_rfl) (by kernel_rfl) (fun _ _ _ h => h) (Or.inl ⟨by rfl, fun w hS => by (obtain ⟨h0, h1⟩ := hS; go_simp)⟩) (HS2.out _ HBu0.out) ?_
  (try simp only [Act.put, List.setIfInBounds_toArray, List.set_cons_zero, List.set_cons_succ])
  refine wpAnyH_val (i := 4) (v := .func (.func 137) #[] #[.pointer (some ⟨eA, 0, none⟩)]) (d := some 62) rfl rfl (by kernel_rfl) (by kernel_rfl) (by kernel_rfl) (fun _ _ _ h => h) (Or.inl ⟨by rfl, fun w hS => by (obtain ⟨h0, h1⟩ := hS; go_simp)⟩) (HS2.out _ HBu0.out) ?_
  (try simp only [Act.put, List.setIfInBounds_toArray, List.set_cons_zero, List.set_cons_succ])
  refine wpAnyH_val (i := 5) (v := .pointer (some ⟨ca, 1, none⟩)) (d := some 63) rfl rfl (by kernel_rfl) (by kernel_rfl) (by kernel_rfl) (fun _ _ _ h => h) (Or.inl ⟨by rfl, fun w hS => by (obtain ⟨h0, h1⟩ := hS; go_simp)⟩) (HS2.out _ HBu0.out) ?_
  (try simp only [Act.put, List.setIfInBounds_toArray, List.set_cons_zero, List.set_cons_succ])
  refine wpAnyH_val (i := 6) (v := .int .i64 ct.b) (d := some 64) rfl rfl (by kernel_rfl) (by kernel_rfl) (by kernel_rfl) (fun _ _ _ h => h) (Or.inl ⟨by rfl, fun w hS => by (obtain ⟨h0, h1⟩ := hS; go_simp)⟩) (HS2.out _ HBu0.out) ?_
  (try simp only [Act.put, List.setIfInBounds_toArray, List.set_cons_zero, List.set_cons_succ])
  refine wpAnyH_oneW (i := 3) rfl (by kernel_rfl) (by rfl) ?_
  go_simp
  go_at_call 137
  (with_reducible refine (HSL.out u0 HBu0.out ct.a).mono ?_)
  rintro e u1 ⟨rfl, hbu1⟩
  rw [← HV.out.1]
  have HBu1 : Hid (Below W1.heap.size W1 u1) := Lib.hid (HBu0.out.trans (hbu1.mono HBu0.out.size))
  clear hbu1
  refine And.intro (HS2.out _ HBu1.out) ?_
  (try simp only [Act.put, List.setIfInBounds_toArray, List.set_cons_zero, List.set_cons_succ])
  refine wpAnyH_oneW (i := 7) rfl (by kernel_rfl) (by rfl) ?_
  go_simp
  go_at_call 137
  (with_reducible refine (HSL.out u1 HBu1.out ct.b).mono ?_)
  rintro e u2 ⟨rfl, hbu2⟩
  rw [← HV.out.2]
  have HBu2 : Hid (Below W1.heap.size W1 u2) := Lib.hid (HBu1.out.trans (hbu2.mono HBu1.out.size))
  clear hbu2
  refine And.intro (HS2.out _ HBu2.out) ?_
  (try simp only [Act.put, List.setIfInBounds_toArray, List.set_cons_zero, List.set_cons_succ])
  refine wpAnyH_val (i := 8) (v := .int .i64 va) (d := some 17) rfl rfl (by kernel_rfl) (by kernel_rfl) (by kernel_rfl) (fun _ _ _ h => h) (Or.inl ⟨by rfl, fun w hS => by (obtain ⟨h0, h1⟩ := hS; go_simp)⟩) (HS2.out _ HBu2.out) ?_
  (try simp only [Act.put, List.setIfInBounds_toArray, List.set_cons_zero, List.set_cons_succ])
  refine wpAnyH_val (i := 9) (v := .int .i64 vb) (d := some 18) rfl rfl (by kernel_rfl) (by kernel_rfl) (by kernel_rfl) (fun _ _ _ h => h) (Or.inl ⟨by rfl, fun w hS => by (obtain ⟨h0, h1⟩ := hS; go_simp)⟩) (HS2.out _ HBu2.out) ?_
  (try simp only [Act.put, List.setIfInBounds_toArray, List.set_cons_zero, List.set_cons_succ])
  refine wpAnyH_done (by kernel_rfl) ?_ _
  refine NoPanic.normal ?_
  have HB12 : Hid (Kz [131, 115] W1 u2 ∧ Below base W1 u2) := Lib.hid ⟨Kz.of_below HBu2.out, HBu2.out.mono HSZ.out.1⟩
  have HCA2 := Lib.hid (HCA.out.below HBu2.out HCA.out.lt)
  have HS12 : Hid (Bk u2 sA 115 #[V0, .slice none 0 0, .slice kA kn kc, V1, V2, V3]) := Lib.hid (HS1.out.below HBu2.out HS1.out.lt)
  have HO12 : Hid (u2.ownsRow base 131 10 (.slice kA kn kc) kn (ctCs D)) := Lib.hid ((Kx.of_below (B := 0) (F := []) HBu2.out).own HO1.out (by simp))
  have HB02 : Hid (Kz [131, 115] w0 u2 ∧ Below base w0 u2 ∧ ∀ g cs, g ≠ sA → Bk w0 g 115 cs → Bk u2 g 115 cs) := Lib.hid ⟨HB1.out.1.trans HB12.out.1, HB1.out.2.1.trans HB12.out.2, fun g cs hg h => (HB1.out.2.2 g cs hg h).below HBu2.out (HB1.out.2.2 g cs hg h).lt⟩
  have HSZ2 : Hid (base ≤ u2.heap.size ∧ base ≤ ca) := Lib.hid ⟨Nat.le_trans HSZ.out.1 HBu2.out.size, HSZ.out.2⟩
  clear HSL HS2 HBu0 HBu1 HBu2 HB1 HCA HS1 HO1 HB12 HSZ
  by_cases hneg : va < 0 ∨ vb < 0
  · have HR : Hid ((∃ kA' kn' kc', Bk u2 sA 115 #[V0, .slice none 0 0, .slice kA' kn' kc', V1, V2, V3] ∧ u2.ownsRow base 131 10 (.slice kA' kn' kc') kn' (ctCs (D ++ ctR1 en ct)) ∧ kn' ≤ kn + 1) ∧ Kz [131, 115] w0 u2 ∧ Below base w0 u2 ∧ ∀ g cs, g ≠ sA → Bk w0 g 115 cs → Bk u2 g 115 cs) := Lib.hid ⟨⟨kA, kn, kc, HS12.out, by
      have e : ctR1 en ct = [] := by
        unfold ctR1
        rw [← HV.out.1, ← HV.out.2]
        exact if_pos hneg
      rw [e, List.append_nil]
      exact HO12.out, by omega⟩, HB02.out⟩
    rcases Decidable.em (va < 0) with h1 | h1
    · clear hneg
      go_wp2_with fail
      try (simp only [Exit.inBlock, Exit.then])
      all_goals
        first
        | exact HR
        | exact hN _ _ _ _ _ _ _ _ _ _ _ _ _ _ _ _ _ _ _ _ _ _ _ _ _ _ _ _ _ _ HR
    · have h2 : vb < 0 := by omega
      clear hneg
      have h1' : 0 ≤ va := by omega
      go_wp2_with fail
      try (simp only [Exit.inBlock, Exit.then])
      all_goals
        first
        | exact HR
        | exact hN _ _ _ _ _ _ _ _ _ _ _ _ _ _ _ _ _ _ _ _ _ _ _ _ _ _ _ _ _ _ HR
  · have h1 : 0 ≤ va := by omega
    have h2 : 0 ≤ vb := by omega
    have HNG := Lib.hid hneg
    clear hneg
    have y0 := HCA2.out.frozen 0
    have y1 := HCA2.out.frozen 1
    obtain ⟨W2, hW2⟩ : ∃ z, z = (u2.setCell ⟨ca, 0, none⟩ (.int .i64 va)).setCell ⟨ca, 1, none⟩ (.int .i64 vb) := ⟨_, rfl⟩
    have HC2 : Hid (Bk W2 ca 131 #[.int .i64 va, .int .i64 vb, .int .i64 ct.id, .int .i64 ct.px, .int .i64 ct.py, .int .i64 ct.nx, .int .i64 ct.ny, .int .i64 ct.dp, .int .i64 ct.ps, .int .i64 ct.sl]) := Lib.hid (by rw [hW2]; simpa using (HCA2.out.set_ 0 (.int .i64 va)).set_ 1 (.int .i64 vb))
    have HNS : Hid (ca ≠ sA) := Lib.hid (Bk.ne_ HCA2.out HS12.out (by decide))
    have HO2 : Hid (W2.ownsRow base 131 10 (.slice kA kn kc) kn (ctCs D)) := Lib.hid (by rw [hW2]; exact own_farB (own_farB HO12.out HNE.out) HNE.out)
    have HZ2 : Hid (Kz [131, 115] u2 W2) := Lib.hid (by rw [hW2]; exact (Kz.refl.set HCA2.out (by simp) 0 _).set (HCA2.out.set_ 0 (.int .i64 va)) (by simp) 1 _)
    have HX2 : Hid (Kx 0 [131] u2 W2) := Lib.hid (by rw [hW2]; exact ((Kx.refl (B := 0)).set HCA2.out (Nat.zero_le _) (by simp) 0 _).set (HCA2.out.set_ 0 (.int .i64 va)) (Nat.zero_le _) (by simp) 1 _)
    have HS22 := Lib.hid (HX2.out.bk HS12.out (by decide))
    have HB2 : Hid (Below base u2 W2) := Lib.hid (by rw [hW2]; exact ((Below.refl _ _).setCell (p := ⟨ca, 0, none⟩) HSZ2.out.2 _).setCell (p := ⟨ca, 1, none⟩) HSZ2.out.2 _)
    have i0 : u2.cell? ⟨ca, 0, none⟩ = some (.int .i64 ct.a) := HCA2.out.cell 0
    have i1 : u2.cell? ⟨ca, 1, none⟩ = some (.int .i64 ct.b) := HCA2.out.cell 1
    have i2 : u2.cell? ⟨ca, 2, none⟩ = some (.int .i64 ct.id) := HCA2.out.cell 2
    have i3 : u2.cell? ⟨ca, 3, none⟩ = some (.int .i64 ct.px) := HCA2.out.cell 3
    have i4 : u2.cell? ⟨ca, 4, none⟩ = some (.int .i64 ct.py) := HCA2.out.cell 4
    have i5 : u2.cell? ⟨ca, 5, none⟩ = some (.int .i64 ct.nx) := HCA2.out.cell 5
    have i6 : u2.cell? ⟨ca, 6, none⟩ = some (.int .i64 ct.ny) := HCA2.out.cell 6
    have i7 : u2.cell? ⟨ca, 7, none⟩ = some (.int .i64 ct.dp) := HCA2.out.cell 7
    have i8 : u2.cell? ⟨ca, 8, none⟩ = some (.int .i64 ct.ps) := HCA2.out.cell 8
    have i9 : u2.cell? ⟨ca, 9, none⟩ = some (.int .i64 ct.sl) := HCA2.out.cell 9
    go_upto_region 18 with fail
    rw [← hW2]
    clear hW2 i0 i1 i2 i3 i4 i5 i6 i7 i8 i9 y0 y1
    have j0 : W2.cell? ⟨ca, 0, none⟩ = some (.int .i64 va) := HC2.out.cell 0
    have j1 : W2.cell? ⟨ca, 1, none⟩ = some (.int .i64 vb) := HC2.out.cell 1
    have j2 : W2.cell? ⟨ca, 2, none⟩ = some (.int .i64 ct.id) := HC2.out.cell 2
    have j3 : W2.cell? ⟨ca, 3, none⟩ = some (.int .i64 ct.px) := HC2.out.cell 3
    have j4 : W2.cell? ⟨ca, 4, none⟩ = some (.int .i64 ct.py) := HC2.out.cell 4
    have j5 : W2.cell? ⟨ca, 5, none⟩ = some (.int .i64 ct.nx) := HC2.out.cell 5
    have j6 : W2.cell? ⟨ca, 6, none⟩ = some (.int .i64 ct.ny) := HC2.out.cell 6
    have j7 : W2.cell? ⟨ca, 7, none⟩ = some (.int .i64 ct.dp) := HC2.out.cell 7
    have j8 : W2.cell? ⟨ca, 8, none⟩ = some (.int .i64 ct.ps) := HC2.out.cell 8
    have j9 : W2.cell? ⟨ca, 9, none⟩ = some (.int .i64 ct.sl) := HC2.out.cell 9
    have s2 : W2.cell? ⟨sA, 2, none⟩ = some (.slice kA kn kc) := HS22.out.cell 2
    go_wp2_with
      (at_builtin
       go_must (refine wpList_append_one _ rfl (.tmp 77) (.tmp 79) 76 rfl base 131 iC (.agg #[.int .i64 0, .int .i64 0, .int .i64 0, .int .i64 0, .int .i64 0, .int .i64 0, .int .i64 0, .int .i64 0, .int .i64 0, .int .i64 0]) 10 80 Try.underlying76 hiC hC0 hC1 hC2 rfl (by decide) (.slice kA kn kc) kn (ctCs D) rfl (HO2.out.alloc _) W2.heap.size 1 131 #[.int .i64 va, .int .i64 vb, .int .i64 ct.id, .int .i64 ct.px, .int .i64 ct.py, .int .i64 ct.nx, .int .i64 ct.ny, .int .i64 ct.dp, .int .i64 ct.ps, .int .i64 ct.sl] rfl (Bk.new W2 _ _) rfl ?c1 (kn + 1) rfl ?c2 ?c3 ?c4 ?_)
       case c1 => simp [Value.oneCell']
       case c2 => unfold maxLen; omega
       case c3 => omega
       case c4 => (have h1 := HB2.out.size; have h2 := HSZ2.out.1; simp; omega)
       intro g8 c8 w8 hown8 hg8 hat8
       have HZ8 : Hid (Kz [131] W2 w8) := Lib.hid ((Kz.refl.alloc _).grown (HO2.out.alloc _) hg8 (by simp))
       have HB8 : Hid (Below base W2 w8) := Lib.hid (((Below.refl _ _).alloc (Nat.le_trans HSZ2.out.1 HB2.out.size) _).trans (grown_below (HO2.out.alloc _) hg8 (by have h1 := HB2.out.size; have h2 := HSZ2.out.1; simp; omega)))
       have HO8 : Hid (w8.ownsRow base 131 10 (.slice (some ⟨g8, 0, none⟩) (kn + 1) c8) (kn + 1) (ctCs (D ++ ctR1 en ct))) := Lib.hid (by
         have e : ctR1 en ct = [{ ct with a := va, b := vb }] := by
           unfold ctR1
           rw [← HV.out.1, ← HV.out.2]
           exact if_neg HNG.out
         rw [e, ctCs_app]
         exact hown8)
       have HK8 := Lib.hid (HZ8.out.kx.bk HS22.out (by decide))
       have s8 : w8.cell? ⟨sA, 2, none⟩ = some (.slice kA kn kc) := HK8.out.cell 2
       have t8 : w8.frozen? ⟨sA, 2, none⟩ = false := HK8.out.frozen 2
       clear hown8 hg8 hat8 s2 j0 j1 j2 j3 j4 j5 j6 j7 j8 j9)
    (try simp only [Exit.inBlock, Exit.then])
    have HR : Hid ((∃ kA' kn' kc', Bk (w8.setCell ⟨sA, 2, none⟩ (.slice (some ⟨g8, 0, none⟩) (kn + 1) c8)) sA 115 #[V0, .slice none 0 0, .slice kA' kn' kc', V1, V2, V3] ∧ (w8.setCell ⟨sA, 2, none⟩ (.slice (some ⟨g8, 0, none⟩) (kn + 1) c8)).ownsRow base 131 10 (.slice kA' kn' kc') kn' (ctCs (D ++ ctR1 en ct)) ∧ kn' ≤ kn + 1) ∧ Kz [131, 115] w0 (w8.setCell ⟨sA, 2, none⟩ (.slice (some ⟨g8, 0, none⟩) (kn + 1) c8)) ∧ Below base w0 (w8.setCell ⟨sA, 2, none⟩ (.slice (some ⟨g8, 0, none⟩) (kn + 1) c8)) ∧ ∀ g cs, g ≠ sA → Bk w0 g 115 cs → Bk (w8.setCell ⟨sA, 2, none⟩ (.slice (some ⟨g8, 0, none⟩) (kn + 1) c8)) g 115 cs) := Lib.hid (by
      refine ⟨⟨some ⟨g8, 0, none⟩, kn + 1, c8, by simpa using HK8.out.set_ 2 (.slice (some ⟨g8, 0, none⟩) (kn + 1) c8), ?_, by omega⟩, ?_, ?_, ?_⟩
      · exact ((Kx.refl (B := 0) (F := [115])).set HK8.out (Nat.zero_le _) (by simp) 2 _).own HO8.out (by decide)
      · exact ((HB02.out.1.trans HZ2.out).trans (HZ8.out.mono (by simp))).set HK8.out (by simp) 2 _
      · exact ((HB02.out.2.1.trans HB2.out).trans HB8.out).setCell (p := ⟨sA, 2, none⟩) hsA _
      · intro g cs hg h
        exact (HZ8.out.kx.bk (HX2.out.bk (HB02.out.2.2 g cs hg h) (by decide)) (by decide)).far (p := ⟨sA, 2, none⟩) hg _)
    first
      | exact HR
      | exact hN _ _ _ _ _ _ _ _ _ _ _ _ _ _ _ _ _ _ _ _ _ _ _ _ _ _ _ _ _ _ HR
/-! ### Bq -/
def ctrF (en : List (Int × Int)) (l : List Ct) : List Ct := l.flatMap (ctR1 en)
theorem ctrF_take {en : List (Int × Int)} {l : List Ct} {k : Nat} {c : Ct} (h : l[k]? = some c) : ctrF en (l.take (k + 1)) = ctrF en (l.take k) ++ ctR1 en c := by
  unfold ctrF
  rw [List.take_add_one, h, List.flatMap_append]
  simp
def SoP (w : World) (q : List (Bo × (Int × Int))) (D : List Ct) (e : Ending) (w' : World) : Prop :=
  Below w.heap.size w w' ∧ ∃ A n c kA kn kc E ec, e = .returned (.tuple #[.agg #[.slice A n c, .slice none 0 0, .slice kA kn kc, .int .i64 0, .int .i64 0, .int .i64 0], .slice E n ec]) ∧ ScR w' w.heap.size A n c kA kn kc E ec q D
/-- The facts of an item that a body needs. -/
structure ItV (it : It) (m0 m1 m2 : Int) : Prop where
  v0 : VaOk it.cms m0 3
  v1 : VaOk it.cms m1 4
  v2 : VaOk it.cms m2 5
  neg : ∀ k, k < 0 → cmAt it.cms k = none
  szs : ∀ cm ∈ it.cms, cm.n ≤ 1048576
set_option maxHeartbeats 16000000 in
theorem sceneOf_any {w : World} {B cn cc : Nat} {cA : Option Addr} {cl : List Ct} {x : Wd} {m0 m1 m2 m3 m4 : Int} (h : WdOk w B x) (hrd : Rd w B 10 cA cn (ctCs cl)) (hcl : cn = cl.length) (hcap : cn ≤ cc) (hcap2 : cc ≤ 9223372036854775807) (hcn : cn * 80 ≤ 140737488355328)
    (hsm : ∀ k ∈ x.ks, k.n ≤ 1048576) (hX : spX (x.ks.map Kd.p) = .agg #[.int .i64 m0, .int .i64 m1, .int .i64 m2, .int .i64 m3, .int .i64 m4]) (him : x.its.length ≤ 256) (hva : ∀ it ∈ x.its, ItV it m0 m1 m2) :
    Calls Try.prog 57 #[x.v, .slice cA cn cc] w (SoP w (bodiesF m0 m1 m2 x.its) (ctrF ((bodiesF m0 m1 m2 x.its).map Prod.snd) cl)) := by
  have hsp0 : ∀ w1, Below w.heap.size w w1 → ∃ Y : Value, (∃ y0 y1 y2 y3 y4 : Bool, Y = .agg #[.bool y0, .bool y1, .bool y2, .bool y3, .bool y4]) ∧ Calls Try.prog 67 #[.slice x.kA x.kn x.kc] w1 fun e w' => e = .returned (.tuple #[.agg #[.int .i64 m0, .int .i64 m1, .int .i64 m2, .int .i64 m3, .int .i64 m4], Y]) ∧ Below w1.heap.size w1 w' := fun w1 hb => by
    have := special_any (h.ks.below (hb.mono h.ks.lo)) hsm
    unfold SpecP at this
    rw [hX] at this
    exact ⟨spY (x.ks.map Kd.p), ⟨_, _, _, _, _, rfl⟩, this⟩
  obtain ⟨kA, kn, kc, ks, gA, gn, gc, gens, iA, im, ic, its⟩ := x
  obtain ⟨hk, hg, hi⟩ := h
  dsimp only at hk hg hi hsp0 hva him
  dsimp only [Wd.v]
  clear hX hsm
  obtain ⟨Q, hQ⟩ : ∃ Q, Q = bodiesF m0 m1 m2 its := ⟨_, rfl⟩
  rw [← hQ]
  obtain ⟨base, hbase⟩ : ∃ z, z = w.heap.size := ⟨_, rfl⟩
  obtain ⟨W0, hW0⟩ : ∃ z, z = (w.alloc (.cells #[.slice kA kn kc, .slice gA gn gc, .slice iA im ic] 52)).alloc (.cells #[.slice none 0 0, .slice none 0 0, .slice none 0 0, .int .i64 0, .int .i64 0, .int .i64 0] 115) := ⟨_, rfl⟩
  have hb0 : Below w.heap.size w W0 := by rw [hW0]; exact ((Below.refl _ _).alloc (Nat.le_refl _) _).alloc (by simp) _
  have HWA : Hid (Bk W0 base 52 #[.slice kA kn kc, .slice gA gn gc, .slice iA im ic]) := Lib.hid (by rw [hW0, hbase]; exact (Bk.new _ _ _).alloc _)
  have HRA : Hid (Bk W0 (base + 1) 115 #[.slice none 0 0, .slice none 0 0, .slice none 0 0, .int .i64 0, .int .i64 0, .int .i64 0]) := Lib.hid (by rw [hW0, hbase]; exact Bk.twoB _ _ _ _)
  obtain ⟨Y, ⟨y0, y1, y2, y3, y4, hY⟩, hsp⟩ := hsp0 W0 hb0
  subst hY
  have HSP := Lib.hid hsp
  have HI := Lib.hid hi
  have HVA := Lib.hid hva
  have HIM : Hid (im ≤ 256) := Lib.hid (by rw [hi.len]; exact him)
  have HRD : Hid (Rd w B 10 cA cn (ctCs cl) ∧ cn = cl.length ∧ cn ≤ cc ∧ cc ≤ 9223372036854775807 ∧ cn * 80 ≤ 140737488355328) := Lib.hid ⟨hrd, hcl, hcap, hcap2, hcn⟩
  have HB0 := Lib.hid hb0
  have HQ := Lib.hid hQ
  have HBS : Hid (base = w.heap.size) := Lib.hid hbase
  have HLO : Hid (B ≤ w.heap.size) := Lib.hid hi.lo
  have hicap := hi.cap
  have hicap2 := hi.cap2
  clear hk hg hi hsp0 hsp hva hrd hcl hb0 hQ hcn him
  go_enter Try.func57, Try.ntmps57
  go_upto_region 1 with fail
  rw [← hW0, ← hbase]
  clear hW0 hbase
  have a0 : W0.cell? ⟨base, 0, none⟩ = some (.slice kA kn kc) := HWA.out.cell 0
  have a1 : W0.cell? ⟨base, 1, none⟩ = some (.slice gA gn gc) := HWA.out.cell 1
  have a2 : W0.cell? ⟨base, 2, none⟩ = some (.slice iA im ic) := HWA.out.cell 2
  go_wp2_with fail
  (with_reducible refine HSP.out.mono ?_)
  rintro e w2 ⟨rfl, hb2⟩
  have HWA2 := Lib.hid (HWA.out.below hb2 HWA.out.lt)
  have HRA2 : Hid (Bk w2 (base + 1) 115 #[.slice none 0 0, .slice none 0 0, .slice none 0 0, .int .i64 0, .int .i64 0, .int .i64 0]) := Lib.hid (HRA.out.below hb2 HRA.out.lt)
  have HB2 : Hid (Below w.heap.size w w2) := Lib.hid (HB0.out.trans (hb2.mono HB0.out.size))
  clear a0 a1 a2 hb2 HWA HRA HSP
  go_upto_region 2 with fail
  obtain ⟨mA, hmA⟩ : ∃ z, z = w2.heap.size := ⟨_, rfl⟩
  obtain ⟨W4, hW4⟩ : ∃ z, z = (w2.alloc (.cells #[.int .i64 m0, .int .i64 m1, .int .i64 m2, .int .i64 m3, .int .i64 m4] 141)).alloc (.cells #[.bool y0, .bool y1, .bool y2, .bool y3, .bool y4] 142) := ⟨_, rfl⟩
  rw [← hW4, ← hmA]
  have hb4 : Below w2.heap.size w2 W4 := by rw [hW4]; exact ((Below.refl _ _).alloc (Nat.le_refl _) _).alloc (by simp) _
  have HMA : Hid (Bk W4 mA 141 #[.int .i64 m0, .int .i64 m1, .int .i64 m2, .int .i64 m3, .int .i64 m4]) := Lib.hid (by rw [hW4, hmA]; exact (Bk.new _ _ _).alloc _)
  have HWA4 := Lib.hid (HWA2.out.below hb4 HWA2.out.lt)
  have HRA4 : Hid (Bk W4 (base + 1) 115 #[.slice none 0 0, .slice none 0 0, .slice none 0 0, .int .i64 0, .int .i64 0, .int .i64 0]) := Lib.hid (HRA2.out.below hb4 HRA2.out.lt)
  have HB4 : Hid (Below w.heap.size w W4) := Lib.hid (HB2.out.trans (hb4.mono HB2.out.size))
  clear hW4 hmA hb4 HB2 HWA2 HRA2
  obtain ⟨sA, hsA⟩ : ∃ z, z = W4.heap.size := ⟨_, rfl⟩
  obtain ⟨W5, hW5⟩ : ∃ z, z = W4.alloc (.cells #[.slice none 0 0, .slice none 0 0, .slice none 0 0, .int .i64 0, .int .i64 0, .int .i64 0] 115) := ⟨_, rfl⟩
  obtain ⟨eA, heA⟩ : ∃ z, z = W5.heap.size := ⟨_, rfl⟩
  obtain ⟨W6, hW6⟩ : ∃ z, z = W5.alloc (.cells #[.slice none 0 0] 116) := ⟨_, rfl⟩
  go_upto_region 3 with fail
  rw [← hW5, ← hsA]
  have hb5 : Below W4.heap.size W4 W5 := by rw [hW5]; exact (Below.refl _ _).alloc (Nat.le_refl _) _
  have HSA5 : Hid (Bk W5 sA 115 #[.slice none 0 0, .slice none 0 0, .slice none 0 0, .int .i64 0, .int .i64 0, .int .i64 0]) := Lib.hid (by rw [hW5, hsA]; exact Bk.new _ _ _)
  clear hW5
  go_upto_region 4 with fail
  rw [← hW6, ← heA]
  have hb6 : Below W4.heap.size W4 W6 := by rw [hW6]; exact hb5.alloc hb5.size _
  have HS6 : Hid (ScI W6 base sA none 0 0 none 0 0 0 0 []) := Lib.hid ⟨by rw [hW6]; exact HSA5.out.alloc _, ⟨[], ⟨World.ownsRow_nil _ _ _ _, rfl, by simp⟩, rfl⟩, World.ownsRow_nil _ _ _ _, rfl, by have h1 := HBS.out; have h2 := HB4.out.size; rw [hsA]; omega⟩
  have HEA6 : Hid (Bk W6 eA 116 #[.slice none 0 0]) := Lib.hid (by rw [hW6, heA]; exact Bk.new _ _ _)
  have HEO : Hid (base ≤ eA) := Lib.hid (by have h1 := HBS.out; have h2 := HB4.out.size; have h3 := hb5.size; rw [heA]; omega)
  have HWA6 := Lib.hid (HWA4.out.below hb6 HWA4.out.lt)
  have HRA6 : Hid (Bk W6 (base + 1) 115 #[.slice none 0 0, .slice none 0 0, .slice none 0 0, .int .i64 0, .int .i64 0, .int .i64 0]) := Lib.hid (HRA4.out.below hb6 HRA4.out.lt)
  have HMA6 := Lib.hid (HMA.out.below hb6 HMA.out.lt)
  have HB6 : Hid (Below w.heap.size w W6) := Lib.hid (HB4.out.trans (hb6.mono HB4.out.size))
  have HNS : Hid (base + 1 ≠ sA) := Lib.hid (by rw [hsA]; have := HRA4.out.lt; omega)
  clear hW6 heA hsA hb5 hb6 HSA5 HWA4 HRA4 HMA HB4
  have b2 : W6.cell? ⟨base, 2, none⟩ = some (.slice iA im ic) := HWA6.out.cell 2
  go_wp2_with fail
  clear b2
  go_loopw [28] (fun kv wx => ∃ (k n c ec : Nat) (A E : Option Addr), k ≤ im ∧ kv = .int .i64 k ∧ Hid (n ≤ k ∧ ScI wx base sA A n c E ec 0 0 0 (bodiesF m0 m1 m2 (its.take k)) ∧ Bk wx eA 116 #[.slice E n ec]) ∧ Hid (Below w.heap.size w wx ∧ Bk wx (base + 1) 115 #[.slice none 0 0, .slice none 0 0, .slice none 0 0, .int .i64 0, .int .i64 0, .int .i64 0] ∧ Bk wx mA 141 #[.int .i64 m0, .int .i64 m1, .int .i64 m2, .int .i64 m3, .int .i64 m4])) (fun kv _ => im - (intOf kv).toNat)
  case atStart => exact ⟨0, 0, 0, 0, none, none, by omega, rfl, Lib.hid ⟨by omega, by simpa [bodiesF] using HS6.out, HEA6.out⟩, Lib.hid ⟨HB6.out, HRA6.out, HMA6.out⟩⟩
  case round =>
    clear HS6 HEA6 HWA6 HRA6 HMA6 HB6
    obtain ⟨k, n, c, ec, A, E, hk, rfl, HST, HKP⟩ := hrel
    by_cases hlt : k < im
    · obtain ⟨it, hit⟩ : ∃ it, its[k]? = some it := ⟨_, List.getElem?_eq_getElem (by have := HI.out.len; omega)⟩
      have HIT := Lib.hid hit
      have hkz : (k : Int) < im := by omega
      have hkz0 : (0 : Int) ≤ k := by omega
      have HISr : Hid (IsOk wr B iA im ic its) := Lib.hid (HI.out.below (HKP.out.1.mono HLO.out))
      have HVr := Lib.hid (HVA.out it (List.mem_of_getElem? hit))
      have HBB : Hid (B ≤ base ∧ base ≤ wr.heap.size ∧ n ≤ 256) := Lib.hid (by have h1 := HBS.out; have h2 := HLO.out; have h3 := HKP.out.1.size; have h4 := HST.out.1; have h5 := HIM.out; omega)
      clear hit
      go_upto_if 29 with fail
      first
        | (go_step; refine soItem_any HISr.out HIT.out HKP.out.2.2 HST.out.2.1 HST.out.2.2 HEO.out HVr.out.v0 HVr.out.v1 HVr.out.v2 HVr.out.neg HVr.out.szs HBB.out.2.2 HBB.out.1 HBB.out.2.1 ?_ ?_)
        | (go_step; go_step; refine soItem_any HISr.out HIT.out HKP.out.2.2 HST.out.2.1 HST.out.2.2 HEO.out HVr.out.v0 HVr.out.v1 HVr.out.v2 HVr.out.neg HVr.out.szs HBB.out.2.2 HBB.out.1 HBB.out.2.1 ?_ ?_)
        | (go_step; go_step; go_step; refine soItem_any HISr.out HIT.out HKP.out.2.2 HST.out.2.1 HST.out.2.2 HEO.out HVr.out.v0 HVr.out.v1 HVr.out.v2 HVr.out.neg HVr.out.szs HBB.out.2.2 HBB.out.1 HBB.out.2.1 ?_ ?_)
        | (go_step; go_step; go_step; go_step; refine soItem_any HISr.out HIT.out HKP.out.2.2 HST.out.2.1 HST.out.2.2 HEO.out HVr.out.v0 HVr.out.v1 HVr.out.v2 HVr.out.neg HVr.out.szs HBB.out.2.2 HBB.out.1 HBB.out.2.1 ?_ ?_)
        | (go_step; go_step; go_step; go_step; go_step; refine soItem_any HISr.out HIT.out HKP.out.2.2 HST.out.2.1 HST.out.2.2 HEO.out HVr.out.v0 HVr.out.v1 HVr.out.v2 HVr.out.neg HVr.out.szs HBB.out.2.2 HBB.out.1 HBB.out.2.1 ?_ ?_)
      · intros
        rename_i w7 H7
        have HSN : Hid (n ≤ k + 1 ∧ ScI w7 base sA A n c E ec 0 0 0 (bodiesF m0 m1 m2 (its.take (k + 1))) ∧ Bk w7 eA 116 #[.slice E n ec]) := Lib.hid (by
          rw [bodiesF_take HIT.out, H7.out.1]
          simp only [Option.map_none, Option.toList_none, List.append_nil]
          exact ⟨by have := HST.out.1; omega, HST.out.2.1.keep (F := []) (Kx.of_below H7.out.2) (by simp) (by simp) (by simp) (by simp), HST.out.2.2.below H7.out.2 HST.out.2.2.lt⟩)
        have HKN : Hid (Below w.heap.size w w7 ∧ Bk w7 (base + 1) 115 #[.slice none 0 0, .slice none 0 0, .slice none 0 0, .int .i64 0, .int .i64 0, .int .i64 0] ∧ Bk w7 mA 141 #[.int .i64 m0, .int .i64 m1, .int .i64 m2, .int .i64 m3, .int .i64 m4]) := Lib.hid ⟨HKP.out.1.trans (H7.out.2.mono HKP.out.1.size), HKP.out.2.1.below H7.out.2 HKP.out.2.1.lt, HKP.out.2.2.below H7.out.2 HKP.out.2.2.lt⟩
        clear HST HKP H7 HISr HVr HBB HIT
        go_wp2_with fail
        go_roundw
        case measure => simp [intOf]; omega
        case rel => exact ⟨k + 1, n, c, ec, A, E, by omega, by go_num, HSN, HKN⟩
      · intros
        rename_i gB cB gE cE b w7 H7
        have HSN : Hid (n + 1 ≤ k + 1 ∧ ScI w7 base sA (some ⟨gB, 0, none⟩) (n + 1) cB (some ⟨gE, 0, none⟩) cE 0 0 0 (bodiesF m0 m1 m2 (its.take (k + 1))) ∧ Bk w7 eA 116 #[.slice (some ⟨gE, 0, none⟩) (n + 1) cE]) := Lib.hid (by
          obtain ⟨p2, p3, p4, p5, p6, p7⟩ := H7.out
          rw [bodiesF_take HIT.out, p2]
          simp only [Option.map_some, Option.toList_some]
          exact ⟨by have := HST.out.1; omega, p3, p4⟩)
        have HKN : Hid (Below w.heap.size w w7 ∧ Bk w7 (base + 1) 115 #[.slice none 0 0, .slice none 0 0, .slice none 0 0, .int .i64 0, .int .i64 0, .int .i64 0] ∧ Bk w7 mA 141 #[.int .i64 m0, .int .i64 m1, .int .i64 m2, .int .i64 m3, .int .i64 m4]) := Lib.hid ⟨HKP.out.1.trans (by rw [← HBS.out]; exact H7.out.2.2.2.2.2), H7.out.2.2.2.2.1 _ _ HNS.out HKP.out.2.1, H7.out.2.2.2.1.bk HKP.out.2.2 (by decide)⟩
        clear HST HKP H7 HISr HVr HBB HIT
        go_wp2_with fail
        go_roundw
        case measure => simp [intOf]; omega
        case rel => exact ⟨k + 1, n + 1, cB, cE, some ⟨gB, 0, none⟩, some ⟨gE, 0, none⟩, by omega, by go_num, HSN, HKN⟩
    · obtain rfl : im = k := by omega
      have HEND : Hid (its.take im = its) := Lib.hid (by rw [HI.out.len]; exact List.take_length)
      have HBQ : Hid (n = Q.length) := Lib.hid (by rw [HQ.out, ← HEND.out]; exact HST.out.2.1.len)
      have HSC : Hid (ScI wr base sA A n c E ec 0 0 0 Q) := Lib.hid (by rw [HQ.out, ← HEND.out]; exact HST.out.2.1)
      have HEE : Hid (Bk wr eA 116 #[.slice E n ec]) := Lib.hid HST.out.2.2
      have HSA : Hid (base ≤ sA) := Lib.hid HST.out.2.1.lo
      have HCO : Hid (Bk wr sA 115 #[.slice A n c, .slice none 0 0, .slice none 0 0, .int .i64 0, .int .i64 0, .int .i64 0]) := Lib.hid HST.out.2.1.s
      have HBW : Hid (base ≤ wr.heap.size ∧ B ≤ base) := Lib.hid (by have h1 := HBS.out; have h2 := HKP.out.1.size; have h3 := HLO.out; omega)
      have HBR : Hid (Below w.heap.size w wr ∧ Bk wr (base + 1) 115 #[.slice none 0 0, .slice none 0 0, .slice none 0 0, .int .i64 0, .int .i64 0, .int .i64 0]) := Lib.hid ⟨HKP.out.1, HKP.out.2.1⟩
      have hcn : cn ≤ cc := hcap
      obtain ⟨wi, hwi⟩ : ∃ z, z = wr := ⟨_, rfl⟩
      have HWI := Lib.hid hwi
      clear HST HKP hwi
      go_wp2_with fail
      go_loopw [54] (fun jv wx => ∃ (j : Nat), j ≤ cn ∧ jv = .int .i64 j ∧ Hid (∃ pA pn pc, Bk wx sA 115 #[.slice A n c, .slice none 0 0, .slice pA pn pc, .int .i64 0, .int .i64 0, .int .i64 0] ∧ wx.ownsRow base 131 10 (.slice pA pn pc) pn (ctCs (ctrF (Q.map Prod.snd) (cl.take j))) ∧ pn ≤ j) ∧ Hid (Kz [131, 115] wi wx ∧ Below base wi wx ∧ ∀ g cs, g ≠ sA → Bk wi g 115 cs → Bk wx g 115 cs)) (fun jv _ => cn - (intOf jv).toNat)
      case atStart => exact ⟨0, Nat.zero_le _, rfl, Lib.hid ⟨none, 0, 0, HCO.out, by simpa [ctrF, ctCs] using World.ownsRow_nil _ _ _ _, Nat.le_refl _⟩, Lib.hid (by rw [HWI.out]; exact ⟨Kz.refl, Below.refl _ _, fun _ _ _ h => h⟩)⟩
      case round =>
        clear HCO
        obtain ⟨j, hj, rfl, HCS, HCK⟩ := hrel
        obtain ⟨pA, pn, pc, hcs⟩ := HCS.out
        have HCS := Lib.hid hcs
        clear hcs
        have HENr : Hid (Bk wr eA 116 #[.slice E n ec] ∧ wr.ownsRow base 128 2 (.slice E n ec) n (enCs (Q.map Prod.snd))) := Lib.hid (by
          refine ⟨HCK.out.1.kx.bk (by rw [HWI.out]; exact HEE.out) (by decide), HCK.out.1.kx.own (by rw [HWI.out]; exact HSC.out.en) (by decide)⟩)
        by_cases hlt2 : j < cn
        · obtain ⟨ct, hct⟩ : ∃ ct, cl[j]? = some ct := ⟨_, List.getElem?_eq_getElem (by have := HRD.out.2.1; omega)⟩
          have HCT := Lib.hid hct
          have hjz : (j : Int) < cn := by omega
          have hjz0 : (0 : Int) ≤ j := by omega
          clear hct
          have HRC : Hid (Rd wr B 10 cA cn (ctCs cl)) := Lib.hid (HRD.out.1.below ((HBR.out.1.mono HLO.out).trans (by rw [← HWI.out]; exact HCK.out.2.1.mono HBW.out.2)))
          have HPN : Hid ((pn + 1) * 80 ≤ 140737488355328 ∧ n = (Q.map Prod.snd).length) := Lib.hid ⟨by have h1 := HCS.out.2.2; have h2 := HRD.out.2.2.2.2; omega, by rw [List.length_map]; exact HBQ.out⟩
          have HSZ : Hid (base ≤ wr.heap.size) := Lib.hid (by have h1 := HBW.out.1; have h2 := HCK.out.2.1.size; have h3 := HWI.out; subst h3; omega)
          go_upto_if 55 with fail
          first
            | (go_step; refine soCon_any HRC.out HRD.out.2.1 HRD.out.2.2.1 HRD.out.2.2.2.1 HCT.out HENr.out.1 HENr.out.2 HPN.out.2 HCS.out.1 HCS.out.2.1 HPN.out.1 HSZ.out HSA.out ?_)
            | (go_step; go_step; refine soCon_any HRC.out HRD.out.2.1 HRD.out.2.2.1 HRD.out.2.2.2.1 HCT.out HENr.out.1 HENr.out.2 HPN.out.2 HCS.out.1 HCS.out.2.1 HPN.out.1 HSZ.out HSA.out ?_)
            | (go_step; go_step; go_step; refine soCon_any HRC.out HRD.out.2.1 HRD.out.2.2.1 HRD.out.2.2.2.1 HCT.out HENr.out.1 HENr.out.2 HPN.out.2 HCS.out.1 HCS.out.2.1 HPN.out.1 HSZ.out HSA.out ?_)
            | (go_step; go_step; go_step; go_step; refine soCon_any HRC.out HRD.out.2.1 HRD.out.2.2.1 HRD.out.2.2.2.1 HCT.out HENr.out.1 HENr.out.2 HPN.out.2 HCS.out.1 HCS.out.2.1 HPN.out.1 HSZ.out HSA.out ?_)
            | (go_step; go_step; go_step; go_step; go_step; refine soCon_any HRC.out HRD.out.2.1 HRD.out.2.2.1 HRD.out.2.2.2.1 HCT.out HENr.out.1 HENr.out.2 HPN.out.2 HCS.out.1 HCS.out.2.1 HPN.out.1 HSZ.out HSA.out ?_)
          intros
          rename_i w7 H7
          have HSN : Hid (∃ pA pn pc, Bk w7 sA 115 #[.slice A n c, .slice none 0 0, .slice pA pn pc, .int .i64 0, .int .i64 0, .int .i64 0] ∧ w7.ownsRow base 131 10 (.slice pA pn pc) pn (ctCs (ctrF (Q.map Prod.snd) (cl.take (j + 1)))) ∧ pn ≤ j + 1) := Lib.hid (by
            obtain ⟨⟨qA, qn, qc, p1, p2, p3⟩, _⟩ := H7.out
            refine ⟨qA, qn, qc, p1, ?_, by have := HCS.out.2.2; omega⟩
            rw [ctrF_take HCT.out]
            exact p2)
          have HKN : Hid (Kz [131, 115] wi w7 ∧ Below base wi w7 ∧ ∀ g cs, g ≠ sA → Bk wi g 115 cs → Bk w7 g 115 cs) := Lib.hid ⟨HCK.out.1.trans H7.out.2.1, HCK.out.2.1.trans H7.out.2.2.1, fun g cs hg hh => H7.out.2.2.2 g cs hg (HCK.out.2.2 g cs hg hh)⟩
          clear HCS HCK H7 HRC HPN HSZ HCT HENr
          go_wp2_with fail
          go_roundw
          case measure => simp [intOf]; omega
          case rel =>
            first
              | exact ⟨j + 1, by omega, by go_num, HSN, HKN⟩
              | (refine ⟨_, _, _, _, _, _, _, _, _, _, _, _, _, _, _, _, _, _, _, _, _, _, _, _, _, _, _, _, _, _, _, _, ?_, rfl⟩; exact ⟨j + 1, by omega, by go_num, HSN, HKN⟩)
        · obtain rfl : cn = j := by omega
          have HR8 : Hid (Bk wr (base + 1) 115 #[.slice none 0 0, .slice none 0 0, .slice none 0 0, .int .i64 0, .int .i64 0, .int .i64 0]) := Lib.hid (HCK.out.2.2 _ _ HNS.out (by rw [HWI.out]; exact HBR.out.2))
          have HB8 : Hid (Below base w wr) := Lib.hid ((by rw [HBS.out]; exact HBR.out.1 : Below base w _).trans (by rw [← HWI.out]; exact HCK.out.2.1))
          go_upto_region 20 with fail
          obtain ⟨u0, hu0⟩ : ∃ z, z = wr.drew := ⟨_, rfl⟩
          have HRu : Hid (Bk u0 (base + 1) 115 #[.slice none 0 0, .slice none 0 0, .slice none 0 0, .int .i64 0, .int .i64 0, .int .i64 0] ∧ Bk u0 sA 115 #[.slice A n c, .slice none 0 0, .slice pA pn pc, .int .i64 0, .int .i64 0, .int .i64 0] ∧ Bk u0 eA 116 #[.slice E n ec] ∧ Below base w u0 ∧ Kx 0 [] wr u0) := Lib.hid (by rw [hu0]; exact ⟨HR8.out.drew, HCS.out.1.drew, HENr.out.1.drew, HB8.out.drew, Kx.refl.drew⟩)
          have z0 : u0.cell? ⟨base + 1, 0, none⟩ = some (.slice none 0 0) := HRu.out.1.cell 0
          have y0 := HRu.out.1.frozen 0
          have z1 : u0.cell? ⟨base + 1, 1, none⟩ = some (.slice none 0 0) := HRu.out.1.cell 1
          have y1 := HRu.out.1.frozen 1
          have z2 : u0.cell? ⟨base + 1, 2, none⟩ = some (.slice none 0 0) := HRu.out.1.cell 2
          have y2 := HRu.out.1.frozen 2
          have z3 : u0.cell? ⟨base + 1, 3, none⟩ = some (.int .i64 0) := HRu.out.1.cell 3
          have y3 := HRu.out.1.frozen 3
          have z4 : u0.cell? ⟨base + 1, 4, none⟩ = some (.int .i64 0) := HRu.out.1.cell 4
          have y4 := HRu.out.1.frozen 4
          have z5 : u0.cell? ⟨base + 1, 5, none⟩ = some (.int .i64 0) := HRu.out.1.cell 5
          have y5 := HRu.out.1.frozen 5
          have hs0 : u0.cell? ⟨sA, 0, none⟩ = some (.slice A n c) ∧ u0.cell? ⟨sA, 1, none⟩ = some (.slice none 0 0) ∧ u0.cell? ⟨sA, 2, none⟩ = some (.slice pA pn pc) ∧ u0.cell? ⟨sA, 3, none⟩ = some (.int .i64 0) ∧ u0.cell? ⟨sA, 4, none⟩ = some (.int .i64 0) ∧ u0.cell? ⟨sA, 5, none⟩ = some (.int .i64 0) ∧ u0.cell? ⟨eA, 0, none⟩ = some (.slice E n ec) := ⟨HRu.out.2.1.cell 0, HRu.out.2.1.cell 1, HRu.out.2.1.cell 2, HRu.out.2.1.cell 3, HRu.out.2.1.cell 4, HRu.out.2.1.cell 5, HRu.out.2.2.1.cell 0⟩
          refine wp_region_noPanic ?_
          refine wp_region_H (S := fun wz => wz.cell? ⟨sA, 0, none⟩ = some (.slice A n c) ∧ wz.cell? ⟨sA, 1, none⟩ = some (.slice none 0 0) ∧ wz.cell? ⟨sA, 2, none⟩ = some (.slice pA pn pc) ∧ wz.cell? ⟨sA, 3, none⟩ = some (.int .i64 0) ∧ wz.cell? ⟨sA, 4, none⟩ = some (.int .i64 0) ∧ wz.cell? ⟨sA, 5, none⟩ = some (.int .i64 0) ∧ wz.cell? ⟨eA, 0, none⟩ = some (.slice E n ec)) (by kernel_rfl) ?_
          rw [← hu0]
          clear hu0
          refine wpAnyH_val (i := 0) (v := .agg #[.slice A n c, .slice none 0 0, .slice pA pn pc, .int .i64 0, .int .i64 0, .int .i64 0]) (d := some 83) rfl rfl (by kernel_rfl) (by kernel_rfl) (by kernel_rfl) (fun _ _ _ h => h) (Or.inl ⟨by rfl, fun w hS => by (obtain ⟨h0, h1, h2, h3, h4, h5, h6⟩ := hS; go_simp)⟩) hs0 ?_
          (try simp only [Act.put, List.setIfInBounds_toArray, List.set_cons_zero, List.set_cons_succ])
          refine wpAnyH_val (i := 1) (v := .slice E n ec) (d := some 84) rfl rfl (by kernel_rfl) (by kernel_rfl) (by kernel_rfl) (fun _ _ _ h => h) (Or.inl ⟨by rfl, fun w hS => by (obtain ⟨h0, h1, h2, h3, h4, h5, h6⟩ := hS; go_simp)⟩) hs0 ?_
          (try simp only [Act.put, List.setIfInBounds_toArray, List.set_cons_zero, List.set_cons_succ])
          refine wpAnyH_oneW (i := 2) rfl (by kernel_rfl) (by rfl) ?_
          go_simp
          have HNE1 : Hid (eA ≠ base + 1) := Lib.hid (HRu.out.2.2.1.ne_ HRu.out.1 (by decide))
          have k1 := HRu.out.2.1.far (p := ⟨base + 1, 0, none⟩) (fun e => HNS.out e.symm) (.slice A n c)
          have l1 := HRu.out.2.2.1.far (p := ⟨base + 1, 0, none⟩) HNE1.out (.slice A n c)
          have k2 := k1.far (p := ⟨base + 1, 1, none⟩) (fun e => HNS.out e.symm) (.slice none 0 0)
          have l2 := l1.far (p := ⟨base + 1, 1, none⟩) HNE1.out (.slice none 0 0)
          have k3 := k2.far (p := ⟨base + 1, 2, none⟩) (fun e => HNS.out e.symm) (.slice pA pn pc)
          have l3 := l2.far (p := ⟨base + 1, 2, none⟩) HNE1.out (.slice pA pn pc)
          have k4 := k3.far (p := ⟨base + 1, 3, none⟩) (fun e => HNS.out e.symm) (.int .i64 0)
          have l4 := l3.far (p := ⟨base + 1, 3, none⟩) HNE1.out (.int .i64 0)
          have k5 := k4.far (p := ⟨base + 1, 4, none⟩) (fun e => HNS.out e.symm) (.int .i64 0)
          have l5 := l4.far (p := ⟨base + 1, 4, none⟩) HNE1.out (.int .i64 0)
          have k6 := k5.far (p := ⟨base + 1, 5, none⟩) (fun e => HNS.out e.symm) (.int .i64 0)
          have l6 := l5.far (p := ⟨base + 1, 5, none⟩) HNE1.out (.int .i64 0)
          have c0 : (u0.setCell ⟨base + 1, 0, none⟩ (.slice A n c)).cell? ⟨sA, 0, none⟩ = some (.slice A n c) := k1.cell 0
          have d0 : ((((((u0.setCell ⟨base + 1, 0, none⟩ (.slice A n c)).setCell ⟨base + 1, 1, none⟩ (.slice none 0 0)).setCell ⟨base + 1, 2, none⟩ (.slice pA pn pc)).setCell ⟨base + 1, 3, none⟩ (.int .i64 0)).setCell ⟨base + 1, 4, none⟩ (.int .i64 0)).setCell ⟨base + 1, 5, none⟩ (.int .i64 0)).cell? ⟨sA, 0, none⟩ = some (.slice A n c) := k6.cell 0
          have f0 : (u0.setCell ⟨base + 1, 0, none⟩ (.slice A n c)).cell? ⟨eA, 0, none⟩ = some (.slice E n ec) := l1.cell 0
          have c1 : ((u0.setCell ⟨base + 1, 0, none⟩ (.slice A n c)).setCell ⟨base + 1, 1, none⟩ (.slice none 0 0)).cell? ⟨sA, 1, none⟩ = some (.slice none 0 0) := k2.cell 1
          have d1 : ((((((u0.setCell ⟨base + 1, 0, none⟩ (.slice A n c)).setCell ⟨base + 1, 1, none⟩ (.slice none 0 0)).setCell ⟨base + 1, 2, none⟩ (.slice pA pn pc)).setCell ⟨base + 1, 3, none⟩ (.int .i64 0)).setCell ⟨base + 1, 4, none⟩ (.int .i64 0)).setCell ⟨base + 1, 5, none⟩ (.int .i64 0)).cell? ⟨sA, 1, none⟩ = some (.slice none 0 0) := k6.cell 1
          have f1 : ((u0.setCell ⟨base + 1, 0, none⟩ (.slice A n c)).setCell ⟨base + 1, 1, none⟩ (.slice none 0 0)).cell? ⟨eA, 0, none⟩ = some (.slice E n ec) := l2.cell 0
          have c2 : (((u0.setCell ⟨base + 1, 0, none⟩ (.slice A n c)).setCell ⟨base + 1, 1, none⟩ (.slice none 0 0)).setCell ⟨base + 1, 2, none⟩ (.slice pA pn pc)).cell? ⟨sA, 2, none⟩ = some (.slice pA pn pc) := k3.cell 2
          have d2 : ((((((u0.setCell ⟨base + 1, 0, none⟩ (.slice A n c)).setCell ⟨base + 1, 1, none⟩ (.slice none 0 0)).setCell ⟨base + 1, 2, none⟩ (.slice pA pn pc)).setCell ⟨base + 1, 3, none⟩ (.int .i64 0)).setCell ⟨base + 1, 4, none⟩ (.int .i64 0)).setCell ⟨base + 1, 5, none⟩ (.int .i64 0)).cell? ⟨sA, 2, none⟩ = some (.slice pA pn pc) := k6.cell 2
          have f2 : (((u0.setCell ⟨base + 1, 0, none⟩ (.slice A n c)).setCell ⟨base + 1, 1, none⟩ (.slice none 0 0)).setCell ⟨base + 1, 2, none⟩ (.slice pA pn pc)).cell? ⟨eA, 0, none⟩ = some (.slice E n ec) := l3.cell 0
          have c3 : ((((u0.setCell ⟨base + 1, 0, none⟩ (.slice A n c)).setCell ⟨base + 1, 1, none⟩ (.slice none 0 0)).setCell ⟨base + 1, 2, none⟩ (.slice pA pn pc)).setCell ⟨base + 1, 3, none⟩ (.int .i64 0)).cell? ⟨sA, 3, none⟩ = some (.int .i64 0) := k4.cell 3
          have d3 : ((((((u0.setCell ⟨base + 1, 0, none⟩ (.slice A n c)).setCell ⟨base + 1, 1, none⟩ (.slice none 0 0)).setCell ⟨base + 1, 2, none⟩ (.slice pA pn pc)).setCell ⟨base + 1, 3, none⟩ (.int .i64 0)).setCell ⟨base + 1, 4, none⟩ (.int .i64 0)).setCell ⟨base + 1, 5, none⟩ (.int .i64 0)).cell? ⟨sA, 3, none⟩ = some (.int .i64 0) := k6.cell 3
          have f3 : ((((u0.setCell ⟨base + 1, 0, none⟩ (.slice A n c)).setCell ⟨base + 1, 1, none⟩ (.slice none 0 0)).setCell ⟨base + 1, 2, none⟩ (.slice pA pn pc)).setCell ⟨base + 1, 3, none⟩ (.int .i64 0)).cell? ⟨eA, 0, none⟩ = some (.slice E n ec) := l4.cell 0
          have c4 : (((((u0.setCell ⟨base + 1, 0, none⟩ (.slice A n c)).setCell ⟨base + 1, 1, none⟩ (.slice none 0 0)).setCell ⟨base + 1, 2, none⟩ (.slice pA pn pc)).setCell ⟨base + 1, 3, none⟩ (.int .i64 0)).setCell ⟨base + 1, 4, none⟩ (.int .i64 0)).cell? ⟨sA, 4, none⟩ = some (.int .i64 0) := k5.cell 4
          have d4 : ((((((u0.setCell ⟨base + 1, 0, none⟩ (.slice A n c)).setCell ⟨base + 1, 1, none⟩ (.slice none 0 0)).setCell ⟨base + 1, 2, none⟩ (.slice pA pn pc)).setCell ⟨base + 1, 3, none⟩ (.int .i64 0)).setCell ⟨base + 1, 4, none⟩ (.int .i64 0)).setCell ⟨base + 1, 5, none⟩ (.int .i64 0)).cell? ⟨sA, 4, none⟩ = some (.int .i64 0) := k6.cell 4
          have f4 : (((((u0.setCell ⟨base + 1, 0, none⟩ (.slice A n c)).setCell ⟨base + 1, 1, none⟩ (.slice none 0 0)).setCell ⟨base + 1, 2, none⟩ (.slice pA pn pc)).setCell ⟨base + 1, 3, none⟩ (.int .i64 0)).setCell ⟨base + 1, 4, none⟩ (.int .i64 0)).cell? ⟨eA, 0, none⟩ = some (.slice E n ec) := l5.cell 0
          have c5 : ((((((u0.setCell ⟨base + 1, 0, none⟩ (.slice A n c)).setCell ⟨base + 1, 1, none⟩ (.slice none 0 0)).setCell ⟨base + 1, 2, none⟩ (.slice pA pn pc)).setCell ⟨base + 1, 3, none⟩ (.int .i64 0)).setCell ⟨base + 1, 4, none⟩ (.int .i64 0)).setCell ⟨base + 1, 5, none⟩ (.int .i64 0)).cell? ⟨sA, 5, none⟩ = some (.int .i64 0) := k6.cell 5
          have d5 : ((((((u0.setCell ⟨base + 1, 0, none⟩ (.slice A n c)).setCell ⟨base + 1, 1, none⟩ (.slice none 0 0)).setCell ⟨base + 1, 2, none⟩ (.slice pA pn pc)).setCell ⟨base + 1, 3, none⟩ (.int .i64 0)).setCell ⟨base + 1, 4, none⟩ (.int .i64 0)).setCell ⟨base + 1, 5, none⟩ (.int .i64 0)).cell? ⟨sA, 5, none⟩ = some (.int .i64 0) := k6.cell 5
          have f5 : ((((((u0.setCell ⟨base + 1, 0, none⟩ (.slice A n c)).setCell ⟨base + 1, 1, none⟩ (.slice none 0 0)).setCell ⟨base + 1, 2, none⟩ (.slice pA pn pc)).setCell ⟨base + 1, 3, none⟩ (.int .i64 0)).setCell ⟨base + 1, 4, none⟩ (.int .i64 0)).setCell ⟨base + 1, 5, none⟩ (.int .i64 0)).cell? ⟨eA, 0, none⟩ = some (.slice E n ec) := l6.cell 0
          obtain ⟨g0, g1, g2, g3, g4, g5, g6⟩ := hs0
          have hSE : ((((((u0.setCell ⟨base + 1, 0, none⟩ (.slice A n c)).setCell ⟨base + 1, 1, none⟩ (.slice none 0 0)).setCell ⟨base + 1, 2, none⟩ (.slice pA pn pc)).setCell ⟨base + 1, 3, none⟩ (.int .i64 0)).setCell ⟨base + 1, 4, none⟩ (.int .i64 0)).setCell ⟨base + 1, 5, none⟩ (.int .i64 0)).cell? ⟨sA, 0, none⟩ = some (.slice A n c) ∧ ((((((u0.setCell ⟨base + 1, 0, none⟩ (.slice A n c)).setCell ⟨base + 1, 1, none⟩ (.slice none 0 0)).setCell ⟨base + 1, 2, none⟩ (.slice pA pn pc)).setCell ⟨base + 1, 3, none⟩ (.int .i64 0)).setCell ⟨base + 1, 4, none⟩ (.int .i64 0)).setCell ⟨base + 1, 5, none⟩ (.int .i64 0)).cell? ⟨sA, 1, none⟩ = some (.slice none 0 0) ∧ ((((((u0.setCell ⟨base + 1, 0, none⟩ (.slice A n c)).setCell ⟨base + 1, 1, none⟩ (.slice none 0 0)).setCell ⟨base + 1, 2, none⟩ (.slice pA pn pc)).setCell ⟨base + 1, 3, none⟩ (.int .i64 0)).setCell ⟨base + 1, 4, none⟩ (.int .i64 0)).setCell ⟨base + 1, 5, none⟩ (.int .i64 0)).cell? ⟨sA, 2, none⟩ = some (.slice pA pn pc) ∧ ((((((u0.setCell ⟨base + 1, 0, none⟩ (.slice A n c)).setCell ⟨base + 1, 1, none⟩ (.slice none 0 0)).setCell ⟨base + 1, 2, none⟩ (.slice pA pn pc)).setCell ⟨base + 1, 3, none⟩ (.int .i64 0)).setCell ⟨base + 1, 4, none⟩ (.int .i64 0)).setCell ⟨base + 1, 5, none⟩ (.int .i64 0)).cell? ⟨sA, 3, none⟩ = some (.int .i64 0) ∧ ((((((u0.setCell ⟨base + 1, 0, none⟩ (.slice A n c)).setCell ⟨base + 1, 1, none⟩ (.slice none 0 0)).setCell ⟨base + 1, 2, none⟩ (.slice pA pn pc)).setCell ⟨base + 1, 3, none⟩ (.int .i64 0)).setCell ⟨base + 1, 4, none⟩ (.int .i64 0)).setCell ⟨base + 1, 5, none⟩ (.int .i64 0)).cell? ⟨sA, 4, none⟩ = some (.int .i64 0) ∧ ((((((u0.setCell ⟨base + 1, 0, none⟩ (.slice A n c)).setCell ⟨base + 1, 1, none⟩ (.slice none 0 0)).setCell ⟨base + 1, 2, none⟩ (.slice pA pn pc)).setCell ⟨base + 1, 3, none⟩ (.int .i64 0)).setCell ⟨base + 1, 4, none⟩ (.int .i64 0)).setCell ⟨base + 1, 5, none⟩ (.int .i64 0)).cell? ⟨sA, 5, none⟩ = some (.int .i64 0) ∧ ((((((u0.setCell ⟨base + 1, 0, none⟩ (.slice A n c)).setCell ⟨base + 1, 1, none⟩ (.slice none 0 0)).setCell ⟨base + 1, 2, none⟩ (.slice pA pn pc)).setCell ⟨base + 1, 3, none⟩ (.int .i64 0)).setCell ⟨base + 1, 4, none⟩ (.int .i64 0)).setCell ⟨base + 1, 5, none⟩ (.int .i64 0)).cell? ⟨eA, 0, none⟩ = some (.slice E n ec) := ⟨d0, d1, d2, d3, d4, d5, f5⟩
          refine And.intro (by and_intros <;> with_reducible assumption) ?_
          (try simp only [Act.put, List.setIfInBounds_toArray, List.set_cons_zero, List.set_cons_succ])
          clear k1 l1 c0 d0 f0 g0 k2 l2 c1 d1 f1 g1 k3 l3 c2 d2 f2 g2 k4 l4 c3 d3 f3 g3 k5 l5 c4 d4 f4 g4 k6 l6 c5 d5 f5 g5 g6
          refine wpAnyH_val (i := 3) (v := .slice E n ec) (d := some 5) rfl rfl (by kernel_rfl) (by kernel_rfl) (by kernel_rfl) (fun _ _ _ h => h) (Or.inl ⟨by rfl, fun w hS => by (obtain ⟨h0, h1, h2, h3, h4, h5, h6⟩ := hS; go_simp)⟩) hSE ?_
          (try simp only [Act.put, List.setIfInBounds_toArray, List.set_cons_zero, List.set_cons_succ])
          refine wpAnyH_done (by kernel_rfl) ?_ _
          refine NoPanic.normal ?_
          obtain ⟨wf, hwf⟩ : ∃ z, z = ((((((u0.setCell ⟨base + 1, 0, none⟩ (.slice A n c)).setCell ⟨base + 1, 1, none⟩ (.slice none 0 0)).setCell ⟨base + 1, 2, none⟩ (.slice pA pn pc)).setCell ⟨base + 1, 3, none⟩ (.int .i64 0)).setCell ⟨base + 1, 4, none⟩ (.int .i64 0)).setCell ⟨base + 1, 5, none⟩ (.int .i64 0)) := ⟨_, rfl⟩
          have HWF : Hid (Bk wf (base + 1) 115 #[.slice A n c, .slice none 0 0, .slice pA pn pc, .int .i64 0, .int .i64 0, .int .i64 0] ∧ Below base w wf ∧ Kx 0 [115] wr wf) := Lib.hid (by
            rw [hwf]
            refine ⟨set6_bk HRu.out.1 _ _ _ _ _ _, ?_, (((((((HRu.out.2.2.2.2.mono (Nat.le_refl _) (by simp)).set HRu.out.1 (Nat.zero_le _) (by simp) 0 _).set (HRu.out.1.set_ 0 (.slice A n c)) (Nat.zero_le _) (by simp) 1 _).set ((HRu.out.1.set_ 0 (.slice A n c)).set_ 1 (.slice none 0 0)) (Nat.zero_le _) (by simp) 2 _).set (((HRu.out.1.set_ 0 (.slice A n c)).set_ 1 (.slice none 0 0)).set_ 2 (.slice pA pn pc)) (Nat.zero_le _) (by simp) 3 _).set ((((HRu.out.1.set_ 0 (.slice A n c)).set_ 1 (.slice none 0 0)).set_ 2 (.slice pA pn pc)).set_ 3 (.int .i64 0)) (Nat.zero_le _) (by simp) 4 _).set (((((HRu.out.1.set_ 0 (.slice A n c)).set_ 1 (.slice none 0 0)).set_ 2 (.slice pA pn pc)).set_ 3 (.int .i64 0)).set_ 4 (.int .i64 0)) (Nat.zero_le _) (by simp) 5 _)⟩
            have hlo : base ≤ base + 1 := by omega
            have hbx := HRu.out.2.2.2.1
            (repeat' first | with_reducible exact hbx | with_reducible refine Below.setCell ?_ hlo _))
          rw [← hwf]
          clear hwf hSE
          have w0 := HWF.out.1.cell 0
          have w1' := HWF.out.1.cell 1
          have w2' := HWF.out.1.cell 2
          have w3' := HWF.out.1.cell 3
          have w4' := HWF.out.1.cell 4
          have w5' := HWF.out.1.cell 5
          go_wp2_with fail
          (try simp only [Exit.inBlock, Exit.then])
          refine bodyPost_ret (v := .tuple #[.agg #[.slice A n c, .slice none 0 0, .slice pA pn pc, .int .i64 0, .int .i64 0, .int .i64 0], .slice E n ec]) ?_ rfl ?_
          · rw [results_cell_tmp rfl]
            go_simp
          · have hkk : Kx 0 [131, 115] wi wf := HCK.out.1.kx.trans (HWF.out.2.2.mono (Nat.le_refl _) (by simp))
            refine ⟨by rw [← HBS.out]; exact HWF.out.2.1, A, n, c, pA, pn, pc, E, ec, rfl, ?_, ?_, HBQ.out, ?_⟩
            · rw [← HBS.out]
              obtain ⟨l, hl, hlq⟩ := HSC.out.bm
              rw [← HWI.out] at hl
              exact ⟨l, hl.keep hkk (by decide) (by decide), hlq⟩
            · rw [← HBS.out]
              have := HSC.out.en
              rw [← HWI.out] at this
              exact hkk.own this (by decide)
            · rw [← HBS.out]
              have := HCS.out.2.1
              rw [HRD.out.2.1, List.take_length] at this
              exact HWF.out.2.2.own this (by decide)
/-! ### Br -/
theorem nearF_rng (f : Fd) (v : Int) : -8589934592 ≤ nearF f v ∧ nearF f v ≤ 8589934592 := by
  unfold nearF
  by_cases h : fieldF f = 0
  · rw [if_pos h]
    have hO := h
    unfold fieldF at h
    have hc : nameF f.nm = true ∧ 1 ≤ f.bits ∧ f.bits ≤ 32 ∧ -4294967296 ≤ f.low ∧ f.low ≤ 4294967296 := by
      by_cases hc : nameF f.nm = true ∧ 1 ≤ f.bits ∧ f.bits ≤ 32 ∧ -4294967296 ≤ f.low ∧ f.low ≤ 4294967296
      · exact hc
      · rw [if_neg hc] at h; cases h
    have hp : (2 : Int) ^ f.bits.toNat ≤ 4294967296 := by
      have h1 : f.bits.toNat ≤ 32 := by omega
      have h2 : (2 : Nat) ^ f.bits.toNat ≤ 2 ^ 32 := Nat.pow_le_pow_right (by omega) h1
      have h3 : ((2 ^ f.bits.toNat : Nat) : Int) ≤ ((2 ^ 32 : Nat) : Int) := Int.ofNat_le.2 h2
      simpa using h3
    have hp0 : (0 : Int) < (2 : Int) ^ f.bits.toNat := Int.pow_pos (by omega)
    have e : highF f = f.low + 2 ^ f.bits.toNat - 1 := by
      unfold highF
      rw [if_pos hO]
      omega
    rw [e]
    have h1 := Int.min_def v (f.low + 2 ^ f.bits.toNat - 1)
    have h2 := Int.max_def f.low (min v (f.low + 2 ^ f.bits.toNat - 1))
    split at h2 <;> split at h1 <;> omega
  · rw [if_neg h]; omega
theorem holdK_rng {d : Kp2} {v : List Int} (h : holdK d v = true) : ∀ x ∈ v, -8589934592 ≤ x ∧ x ≤ 8589934592 := by
  obtain ⟨_, h2, h3⟩ := holdK_iff.1 h
  intro x hx
  obtain ⟨i, hi, e⟩ := List.mem_iff_getElem.1 hx
  have hf : d.2[i]? = some (d.2[i]'(by omega)) := List.getElem?_eq_getElem _
  have e2 := h3 i _ hf
  have e3 : v.getD i 0 = x := by simp [List.getD, List.getElem?_eq_getElem hi, e]
  rw [e3] at e2
  rw [← e2]
  exact nearF_rng _ _
theorem cmAt_mem {l : List Cm} {k : Int} {cm : Cm} (h : cmAt l k = some cm) : cm ∈ l ∧ cm.k = k := ⟨List.mem_of_find?_eq_some h, by simpa using List.find?_some h⟩
theorem va_of {ks : List Kp2} {l : List Cm} {m : Int} {N : Nat} (hvc : VCs holdK ks (l.map Cm.p)) (hm : ∀ (k : Nat) d, m = k → ks[k]? = some d → d.2.length = N) : VaOk l m N := by
  constructor
  · intro cm hc
    obtain ⟨h1, h2⟩ := cmAt_mem hc
    obtain ⟨k, d, e1, e2, e3⟩ := hvc.ok (Cm.p cm) (List.mem_map_of_mem h1)
    have e4 := (holdK_iff.1 e3).2.1
    have e5 : (Cm.p cm).1 = cm.k := rfl
    rw [← hm k d (by rw [← h2, ← e5, e1]) e2]
    exact e4
  · intro cm hc
    obtain ⟨h1, h2⟩ := cmAt_mem hc
    obtain ⟨k, d, e1, e2, e3⟩ := hvc.ok (Cm.p cm) (List.mem_map_of_mem h1)
    exact holdK_rng e3
theorem named_len {ks : List (ByteArray × List Fd)} {nm : ByteArray} {ns : List ByteArray} {m : Int} (h : namedF ks nm ns = (m, true)) (k : Nat) (d : ByteArray × List Fd) (hk : m = k) (hd : ks[k]? = some d) : d.2.length = ns.length := by
  unfold namedF at h
  by_cases hf : findF (ks.map (·.1)) nm < 0
  · rw [if_pos hf] at h
    injection h with h1
    omega
  · rw [if_neg hf] at h
    cases hg : ks[(findF (ks.map (·.1)) nm).toNat]? with
    | none =>
      rw [hg] at h
      injection h with h1
      omega
    | some x =>
      rw [hg] at h
      injection h with h1 h2
      have e : (findF (ks.map (·.1)) nm).toNat = k := by omega
      rw [e, hd] at hg
      injection hg with hg
      subst hg
      have := of_decide_eq_true h2
      rw [← this, List.length_map]
theorem mapF_ok {ks : List (ByteArray × List Fd)} {m0 m1 m2 : Int} (h : mapF ks = ((m0, m1, m2), 0)) : spec ks sp0 = (m0, true) ∧ spec ks sp1 = (m1, true) ∧ spec ks sp2 = (m2, true) := by
  unfold mapF at h
  by_cases h0 : checkF ks ≠ 0
  · rw [if_pos h0] at h
    injection h with _ h
    exact absurd h h0
  · rw [if_neg h0] at h
    generalize spec ks sp0 = r0 at *
    generalize spec ks sp1 = r1 at *
    generalize spec ks sp2 = r2 at *
    obtain ⟨a0, b0⟩ := r0
    obtain ⟨a1, b1⟩ := r1
    obtain ⟨a2, b2⟩ := r2
    dsimp only at h
    cases b0 <;> cases b1 <;> cases b2 <;> simp at h ⊢ <;> omega
theorem itv_of {w : World} {B : Nat} {x : Wd} {m0 m1 m2 : Int} (h : WdOk w B x) (hc : wcheckF x.p = 0) (hm : mapF (x.ks.map Kd.p) = ((m0, m1, m2), 0)) : ∀ it ∈ x.its, ItV it m0 m1 m2 := by
  obtain ⟨_, hv⟩ := vw_of hc
  obtain ⟨s0, s1, s2⟩ := mapF_ok hm
  intro it hit
  have hvc : VCs holdK (x.ks.map Kd.p) (it.cms.map Cm.p) := (hv.ok (It.p it) (List.mem_map_of_mem hit)).2.2
  refine ⟨va_of hvc fun k d e1 e2 => named_len s0 k d e1 e2, va_of hvc fun k d e1 e2 => named_len s1 k d e1 e2, va_of hvc fun k d e1 e2 => named_len s2 k d e1 e2, fun k hk => ?_, fun cm hcm => ?_⟩
  · cases hq : cmAt it.cms k with
    | none => rfl
    | some cm =>
      obtain ⟨h1, h2⟩ := cmAt_mem hq
      obtain ⟨j, d, e1, _⟩ := hvc.ok (Cm.p cm) (List.mem_map_of_mem h1)
      have e5 : (Cm.p cm).1 = cm.k := rfl
      omega
  · obtain ⟨j, d, e1, e2, e3⟩ := hvc.ok (Cm.p cm) (List.mem_map_of_mem hcm)
    have e4 := (holdK_iff.1 e3).1
    have e6 := (holdK_iff.1 e3).2.1
    have e5 := oneF_small e4
    have e7 := ((h.its.ok it hit).cs.ok cm hcm).len
    have e8 : (Cm.p cm).2 = cm.vals := rfl
    rw [e8] at e6
    omega
theorem slotI_none {l : List (Int × Int)} {k : Int} (h : ∀ e ∈ l, e.1 ≠ k) : slotI l k = -1 := idxF_none fun _j y hy => decide_eq_false (h y (List.mem_of_getElem? hy))
theorem slotM_I (l : List (Int × Int)) (hs : l.Pairwise fun a b => a.1 < b.1) (n : Nat) (f : Int → Option Int) (k : Int) : slotM l n f k = if slotI l k < 0 then f k else some (n + slotI l k) := by
  induction l generalizing n f with
  | nil => rfl
  | cons e l ih =>
    rw [List.pairwise_cons] at hs
    unfold slotM
    rw [ih hs.2]
    by_cases he : e.1 = k
    · have h1 : slotI l k = -1 := slotI_none fun y hy => by have := hs.1 y hy; omega
      have h2 : slotI (e :: l) k = 0 := by unfold slotI idxF; rw [if_pos (decide_eq_true he)]
      rw [h1, h2]
      simp [he]
    · have h2 : slotI (e :: l) k = if slotI l k < 0 then -1 else slotI l k + 1 := by
        unfold slotI
        rw [idxF, if_neg (by simp [he])]
      rw [h2]
      by_cases h3 : slotI l k < 0
      · have hk : k ≠ e.1 := fun h => he h.symm
        simp [h3, hk]
      · have h4 : ¬ slotI l k + 1 < 0 := by omega
        rw [if_neg h3, if_neg h3, if_neg h4]
        congr 1
        push_cast
        omega
theorem cts_ctr {en : List (Int × Int)} (hs : en.Pairwise fun a b => a.1 < b.1) (cl : List Ct) : ctsF (slotM en 0 fun _ => none) cl = ctrF en cl := by
  unfold ctsF ctrF
  refine flat_congr fun c _ => ?_
  unfold ctF1 ctR1
  rw [slotM_I en hs, slotM_I en hs]
  by_cases h1 : slotI en c.a < 0
  · simp [h1]
  · by_cases h2 : slotI en c.b < 0
    · simp [h1, h2]
    · simp [h1, h2]
theorem bodies_slots {x : Wd} (hc : wcheckF x.p = 0) (m0 m1 m2 : Int) : ((bodiesF m0 m1 m2 x.its).map Prod.snd).Pairwise fun a b => a.1 < b.1 := by
  obtain ⟨_, hv⟩ := vw_of hc
  have h1 : x.its.Pairwise fun a b => a.e < b.e := by
    have := hv.sorted
    have e : x.p.its = x.its.map It.p := rfl
    rw [e, List.pairwise_map] at this
    exact this
  rw [List.pairwise_map]
  unfold bodiesF
  refine List.Pairwise.filterMap _ (fun a b hab p hp r hr => ?_) h1
  obtain ⟨b1, _, rfl⟩ := Option.map_eq_some_iff.1 hp
  obtain ⟨b2, _, rfl⟩ := Option.map_eq_some_iff.1 hr
  exact hab
/-! ### Bs -/
set_option maxHeartbeats 1600000 in
theorem eq60_any {A A' : Option Addr} {n c c' B B' : Nat} {l : List (Int × Int)} {w : World} (hn : n = l.length) (hm : n ≤ 9223372036854775807) (hr : Rd w B 2 A n (enCs l)) (hr' : Rd w B' 2 A' n (enCs l)) :
    Calls Try.prog 60 #[.slice A n c, .slice A' n c'] w fun e w' => e = .returned (.bool true) ∧ ∃ m, w.drewN m = w' := by
  have t0 : ((n : Int) != n) = false := by simp
  have HN := Lib.hid hn
  have HR := Lib.hid hr
  have HR' := Lib.hid hr'
  clear hn hr hr'
  go_enter Try.func60, Try.ntmps60
  go_wp2_with fail
  go_loopw [13] (fun i wr => ∃ k : Nat, k ≤ n ∧ i = .int .i64 k ∧ ∃ m, w.drewN m = wr) (fun i _ => n - (intOf i).toNat)
  case atStart => exact ⟨0, Nat.zero_le _, rfl, 0, rfl⟩
  case round =>
    obtain ⟨k, hk, rfl, m, rfl⟩ := hrel
    by_cases hlt : k < n
    · obtain ⟨x, hx⟩ : ∃ x, l[k]? = some x := ⟨_, List.getElem?_eq_getElem (by have := HN.out; omega)⟩
      obtain ⟨b, o, rfl, _, p0, p1⟩ := HR.out.en hlt hx
      obtain ⟨b', o', rfl, _, r0, r1⟩ := HR'.out.en hlt hx
      have hk0 : (0 : Int) ≤ k := by omega
      have hkn : (k : Int) < n := by omega
      clear hx
      go_wp2_with fail
      go_quiet (fail)
      go_wp2_with fail
      go_roundw
      case measure => simp [intOf]; omega
      case rel => exact ⟨k + 1, by omega, by go_num, _, rfl⟩
    · go_wp2
      go_ret
      exact ⟨rfl, _, rfl⟩
set_option maxHeartbeats 1600000 in
theorem eq140_any {A A' : Option Addr} {n c c' B B' : Nat} {l : List (Int × Int)} {w : World} (hn : n = l.length) (hm : n ≤ 9223372036854775807) (hr : Rd w B 2 A n (enCs l)) (hr' : Rd w B' 2 A' n (enCs l)) :
    Calls Try.prog 140 #[.slice A n c, .slice A' n c'] w fun e w' => e = .returned (.bool true) ∧ ∃ m, w.drewN m = w' := by
  have t0 : ((n : Int) != n) = false := by simp
  have HN := Lib.hid hn
  have HR := Lib.hid hr
  have HR' := Lib.hid hr'
  clear hn hr hr'
  go_enter Try.func140, Try.ntmps140
  go_wp2_with fail
  go_loopw [13] (fun i wr => ∃ k : Nat, k ≤ n ∧ i = .int .i64 k ∧ ∃ m, w.drewN m = wr) (fun i _ => n - (intOf i).toNat)
  case atStart => exact ⟨0, Nat.zero_le _, rfl, 0, rfl⟩
  case round =>
    obtain ⟨k, hk, rfl, m, rfl⟩ := hrel
    by_cases hlt : k < n
    · obtain ⟨x, hx⟩ : ∃ x, l[k]? = some x := ⟨_, List.getElem?_eq_getElem (by have := HN.out; omega)⟩
      obtain ⟨b, o, rfl, _, p0, p1⟩ := HR.out.en hlt hx
      obtain ⟨b', o', rfl, _, r0, r1⟩ := HR'.out.en hlt hx
      have hk0 : (0 : Int) ≤ k := by omega
      have hkn : (k : Int) < n := by omega
      clear hx
      go_wp2_with fail
      go_quiet (fail)
      go_wp2_with fail
      go_roundw
      case measure => simp [intOf]; omega
      case rel => exact ⟨k + 1, by omega, by go_num, _, rfl⟩
    · go_wp2
      go_ret
      exact ⟨rfl, _, rfl⟩
set_option maxHeartbeats 1600000 in
theorem eq61_any {A A' : Option Addr} {n c c' B B' : Nat} {l : List Ct} {w : World} (hn : n = l.length) (hm : n ≤ 9223372036854775807) (hr : Rd w B 10 A n (ctCs l)) (hr' : Rd w B' 10 A' n (ctCs l)) :
    Calls Try.prog 61 #[.slice A n c, .slice A' n c'] w fun e w' => e = .returned (.bool true) ∧ ∃ m, w.drewN m = w' := by
  have t0 : ((n : Int) != n) = false := by simp
  have HN := Lib.hid hn
  have HR := Lib.hid hr
  have HR' := Lib.hid hr'
  clear hn hr hr'
  go_enter Try.func61, Try.ntmps61
  go_wp2_with fail
  go_loopw [13] (fun i wr => ∃ k : Nat, k ≤ n ∧ i = .int .i64 k ∧ ∃ m, w.drewN m = wr) (fun i _ => n - (intOf i).toNat)
  case atStart => exact ⟨0, Nat.zero_le _, rfl, 0, rfl⟩
  case round =>
    obtain ⟨k, hk, rfl, m, rfl⟩ := hrel
    by_cases hlt : k < n
    · obtain ⟨x, hx⟩ : ∃ x, l[k]? = some x := ⟨_, List.getElem?_eq_getElem (by have := HN.out; omega)⟩
      obtain ⟨b, o, rfl, _, p0, p1, p2, p3, p4, p5, p6, p7, p8, p9⟩ := HR.out.ct hlt hx
      obtain ⟨b', o', rfl, _, r0, r1, r2, r3, r4, r5, r6, r7, r8, r9⟩ := HR'.out.ct hlt hx
      have hk0 : (0 : Int) ≤ k := by omega
      have hkn : (k : Int) < n := by omega
      clear hx
      go_wp2_with fail
      go_quiet (fail)
      go_wp2_with fail
      go_roundw
      case measure => simp [intOf]; omega
      case rel => exact ⟨k + 1, by omega, by go_num, _, rfl⟩
    · go_wp2
      go_ret
      exact ⟨rfl, _, rfl⟩
/-! ### Bt -/
def crV (b : Bo) : List (Int × Int) := [(-b.w, -b.h), (b.w, -b.h), (b.w, b.h), (-b.w, b.h)]
theorem bmCs_get (l : List Bm) (k j : Nat) (f : Bm) (h : l[k]? = some f) (hj : j < 13) : (bmCs l)[k * 13 + j]? = (Bm.cs f)[j]? := by
  have hlen : ∀ x : Bm, (Bm.cs x).length = 13 := fun x => rfl
  induction l generalizing k with
  | nil => simp at h
  | cons a l ih =>
    have e : bmCs (a :: l) = Bm.cs a ++ bmCs l := by simp [bmCs]
    rw [e]
    cases k with
    | zero =>
      have ea : a = f := by simpa using h
      subst ea
      rw [List.getElem?_append_left (by rw [hlen]; omega)]
      congr 1; omega
    | succ k =>
      rw [List.getElem?_append_right (by rw [hlen]; omega)]
      rw [show (k + 1) * 13 + j - (Bm.cs a).length = k * 13 + j by rw [hlen]; omega]
      exact ih k (by simpa using h)
theorem Rd.bm {w : World} {B n : Nat} {A : Option Addr} {l : List Bm} {k : Nat} {f : Bm} (h : Rd w B 13 A n (bmCs l)) (hk : k < n) (hf : l[k]? = some f) :
    ∃ b o, A = some ⟨b, o, none⟩ ∧ b < B ∧ w.cell? ⟨b, o + k * 13, none⟩ = some (.int .i64 f.b.px) ∧ w.cell? ⟨b, o + k * 13 + 1, none⟩ = some (.int .i64 f.b.py) ∧ w.cell? ⟨b, o + k * 13 + 2, none⟩ = some (.int .i64 f.b.vx) ∧ w.cell? ⟨b, o + k * 13 + 3, none⟩ = some (.int .i64 f.b.vy) ∧ w.cell? ⟨b, o + k * 13 + 4, none⟩ = some (.int .i64 f.b.ang) ∧ w.cell? ⟨b, o + k * 13 + 5, none⟩ = some (.int .i64 f.b.spin) ∧ w.cell? ⟨b, o + k * 13 + 6, none⟩ = some (.int .i64 f.b.mass) ∧ w.cell? ⟨b, o + k * 13 + 7, none⟩ = some (.int .i64 f.b.inr) ∧ w.cell? ⟨b, o + k * 13 + 8, none⟩ = some (.int .i64 f.b.bou) ∧ w.cell? ⟨b, o + k * 13 + 9, none⟩ = some (.int .i64 f.b.rub) ∧ w.cell? ⟨b, o + k * 13 + 10, none⟩ = some (.slice (some ⟨f.g, 0, none⟩) 4 f.c) ∧ w.cell? ⟨b, o + k * 13 + 11, none⟩ = some (.bool f.b.asl) ∧ w.cell? ⟨b, o + k * 13 + 12, none⟩ = some (.int .i64 f.b.calm) := by
  obtain ⟨b, o, e, hb, hc⟩ := h.2 (by omega)
  exact ⟨b, o, e, hb, hc (k * 13) _ ((bmCs_get l k 0 f hf (by omega)).trans rfl), by rw [Nat.add_assoc]; exact hc (k * 13 + 1) _ ((bmCs_get l k 1 f hf (by omega)).trans rfl), by rw [Nat.add_assoc]; exact hc (k * 13 + 2) _ ((bmCs_get l k 2 f hf (by omega)).trans rfl), by rw [Nat.add_assoc]; exact hc (k * 13 + 3) _ ((bmCs_get l k 3 f hf (by omega)).trans rfl), by rw [Nat.add_assoc]; exact hc (k * 13 + 4) _ ((bmCs_get l k 4 f hf (by omega)).trans rfl), by rw [Nat.add_assoc]; exact hc (k * 13 + 5) _ ((bmCs_get l k 5 f hf (by omega)).trans rfl), by rw [Nat.add_assoc]; exact hc (k * 13 + 6) _ ((bmCs_get l k 6 f hf (by omega)).trans rfl), by rw [Nat.add_assoc]; exact hc (k * 13 + 7) _ ((bmCs_get l k 7 f hf (by omega)).trans rfl), by rw [Nat.add_assoc]; exact hc (k * 13 + 8) _ ((bmCs_get l k 8 f hf (by omega)).trans rfl), by rw [Nat.add_assoc]; exact hc (k * 13 + 9) _ ((bmCs_get l k 9 f hf (by omega)).trans rfl), by rw [Nat.add_assoc]; exact hc (k * 13 + 10) _ ((bmCs_get l k 10 f hf (by omega)).trans rfl), by rw [Nat.add_assoc]; exact hc (k * 13 + 11) _ ((bmCs_get l k 11 f hf (by omega)).trans rfl), by rw [Nat.add_assoc]; exact hc (k * 13 + 12) _ ((bmCs_get l k 12 f hf (by omega)).trans rfl)⟩
set_option maxHeartbeats 8000000 in
theorem same59_any {b : Bo} {g c g' c' B B' : Nat} {w : World} (h : Rd w B 2 (some ⟨g, 0, none⟩) 4 ((crn b).map (Value.int .i64))) (h' : Rd w B' 2 (some ⟨g', 0, none⟩) 4 ((crn b).map (Value.int .i64))) (hB : B ≤ w.heap.size) (hB' : B' ≤ w.heap.size) :
    Calls Try.prog 59 #[.agg #[.int .i64 b.px, .int .i64 b.py, .int .i64 b.vx, .int .i64 b.vy, .int .i64 b.ang, .int .i64 b.spin, .int .i64 b.mass, .int .i64 b.inr, .int .i64 b.bou, .int .i64 b.rub, .slice (some ⟨g, 0, none⟩) 4 c, .bool b.asl, .int .i64 b.calm], .agg #[.int .i64 b.px, .int .i64 b.py, .int .i64 b.vx, .int .i64 b.vy, .int .i64 b.ang, .int .i64 b.spin, .int .i64 b.mass, .int .i64 b.inr, .int .i64 b.bou, .int .i64 b.rub, .slice (some ⟨g', 0, none⟩) 4 c', .bool b.asl, .int .i64 b.calm]] w fun e w' => e = .returned (.bool true) ∧ Below w.heap.size w w' := by
  obtain ⟨W1, hW1⟩ : ∃ z, z = (w.alloc (.cells #[.int .i64 b.px, .int .i64 b.py, .int .i64 b.vx, .int .i64 b.vy, .int .i64 b.ang, .int .i64 b.spin, .int .i64 b.mass, .int .i64 b.inr, .int .i64 b.bou, .int .i64 b.rub, .slice (some ⟨g, 0, none⟩) 4 c, .bool b.asl, .int .i64 b.calm] 124)).alloc (.cells #[.int .i64 b.px, .int .i64 b.py, .int .i64 b.vx, .int .i64 b.vy, .int .i64 b.ang, .int .i64 b.spin, .int .i64 b.mass, .int .i64 b.inr, .int .i64 b.bou, .int .i64 b.rub, .slice (some ⟨g', 0, none⟩) 4 c', .bool b.asl, .int .i64 b.calm] 124) := ⟨_, rfl⟩
  obtain ⟨a, ha⟩ : ∃ z, z = w.heap.size := ⟨_, rfl⟩
  have hb1 : Below w.heap.size w W1 := by rw [hW1]; exact ((Below.refl _ _).alloc (Nat.le_refl _) _).alloc (by simp) _
  have HA : Hid (Bk W1 a 124 #[.int .i64 b.px, .int .i64 b.py, .int .i64 b.vx, .int .i64 b.vy, .int .i64 b.ang, .int .i64 b.spin, .int .i64 b.mass, .int .i64 b.inr, .int .i64 b.bou, .int .i64 b.rub, .slice (some ⟨g, 0, none⟩) 4 c, .bool b.asl, .int .i64 b.calm]) := Lib.hid (by rw [hW1, ha]; exact (Bk.new _ _ _).alloc _)
  have HC : Hid (Bk W1 (a + 1) 124 #[.int .i64 b.px, .int .i64 b.py, .int .i64 b.vx, .int .i64 b.vy, .int .i64 b.ang, .int .i64 b.spin, .int .i64 b.mass, .int .i64 b.inr, .int .i64 b.bou, .int .i64 b.rub, .slice (some ⟨g', 0, none⟩) 4 c', .bool b.asl, .int .i64 b.calm]) := Lib.hid (by rw [hW1, ha]; exact Bk.twoB _ _ _ _)
  have hq := eq140_any (c := c) (c' := c') (l := crV b) (w := W1) (show 4 = (crV b).length from rfl) (by omega) (h.below (hb1.mono hB)) (h'.below (hb1.mono hB'))
  have HQ := Lib.hid hq
  have HB1 := Lib.hid hb1
  have HLO : Hid (a = w.heap.size) := Lib.hid ha
  clear h h' hB hB' hq hb1
  go_enter Try.func59, Try.ntmps59
  go_upto_region 1 with fail
  rw [← hW1, ← ha]
  clear hW1 ha
  have p10 : W1.cell? ⟨a, 10, none⟩ = some (.slice (some ⟨g, 0, none⟩) 4 c) := HA.out.cell 10
  have r10 : W1.cell? ⟨a + 1, 10, none⟩ = some (.slice (some ⟨g', 0, none⟩) 4 c') := HC.out.cell 10
  go_wp2_with fail
  (with_reducible refine HQ.out.mono ?_)
  rintro e w2 ⟨rfl, m, rfl⟩
  clear p10 r10
  obtain ⟨w2, hw2⟩ : ∃ z, z = W1.drewN m := ⟨_, rfl⟩
  have HA2 : Hid (Bk w2 a 124 #[.int .i64 b.px, .int .i64 b.py, .int .i64 b.vx, .int .i64 b.vy, .int .i64 b.ang, .int .i64 b.spin, .int .i64 b.mass, .int .i64 b.inr, .int .i64 b.bou, .int .i64 b.rub, .slice (some ⟨g, 0, none⟩) 4 c, .bool b.asl, .int .i64 b.calm]) := Lib.hid (by rw [hw2]; exact HA.out.drewN m)
  have HC2 : Hid (Bk w2 (a + 1) 124 #[.int .i64 b.px, .int .i64 b.py, .int .i64 b.vx, .int .i64 b.vy, .int .i64 b.ang, .int .i64 b.spin, .int .i64 b.mass, .int .i64 b.inr, .int .i64 b.bou, .int .i64 b.rub, .slice (some ⟨g', 0, none⟩) 4 c', .bool b.asl, .int .i64 b.calm]) := Lib.hid (by rw [hw2]; exact HC.out.drewN m)
  have HB2 : Hid (Below w.heap.size w w2) := Lib.hid (by rw [hw2]; exact below_drewN HB1.out m)
  rw [← hw2]
  clear hw2 HA HC HQ HB1
  have p0 : w2.cell? ⟨a, 0, none⟩ = some (.int .i64 b.px) := HA2.out.cell 0
  have r0 : w2.cell? ⟨a + 1, 0, none⟩ = some (.int .i64 b.px) := HC2.out.cell 0
  have p1 : w2.cell? ⟨a, 1, none⟩ = some (.int .i64 b.py) := HA2.out.cell 1
  have r1 : w2.cell? ⟨a + 1, 1, none⟩ = some (.int .i64 b.py) := HC2.out.cell 1
  have p2 : w2.cell? ⟨a, 2, none⟩ = some (.int .i64 b.vx) := HA2.out.cell 2
  have r2 : w2.cell? ⟨a + 1, 2, none⟩ = some (.int .i64 b.vx) := HC2.out.cell 2
  have p3 : w2.cell? ⟨a, 3, none⟩ = some (.int .i64 b.vy) := HA2.out.cell 3
  have r3 : w2.cell? ⟨a + 1, 3, none⟩ = some (.int .i64 b.vy) := HC2.out.cell 3
  have p4 : w2.cell? ⟨a, 4, none⟩ = some (.int .i64 b.ang) := HA2.out.cell 4
  have r4 : w2.cell? ⟨a + 1, 4, none⟩ = some (.int .i64 b.ang) := HC2.out.cell 4
  have p5 : w2.cell? ⟨a, 5, none⟩ = some (.int .i64 b.spin) := HA2.out.cell 5
  have r5 : w2.cell? ⟨a + 1, 5, none⟩ = some (.int .i64 b.spin) := HC2.out.cell 5
  have p6 : w2.cell? ⟨a, 6, none⟩ = some (.int .i64 b.mass) := HA2.out.cell 6
  have r6 : w2.cell? ⟨a + 1, 6, none⟩ = some (.int .i64 b.mass) := HC2.out.cell 6
  have p7 : w2.cell? ⟨a, 7, none⟩ = some (.int .i64 b.inr) := HA2.out.cell 7
  have r7 : w2.cell? ⟨a + 1, 7, none⟩ = some (.int .i64 b.inr) := HC2.out.cell 7
  have p8 : w2.cell? ⟨a, 8, none⟩ = some (.int .i64 b.bou) := HA2.out.cell 8
  have r8 : w2.cell? ⟨a + 1, 8, none⟩ = some (.int .i64 b.bou) := HC2.out.cell 8
  have p9 : w2.cell? ⟨a, 9, none⟩ = some (.int .i64 b.rub) := HA2.out.cell 9
  have r9 : w2.cell? ⟨a + 1, 9, none⟩ = some (.int .i64 b.rub) := HC2.out.cell 9
  have p10 : w2.cell? ⟨a, 10, none⟩ = some (.slice (some ⟨g, 0, none⟩) 4 c) := HA2.out.cell 10
  have r10 : w2.cell? ⟨a + 1, 10, none⟩ = some (.slice (some ⟨g', 0, none⟩) 4 c') := HC2.out.cell 10
  have p11 : w2.cell? ⟨a, 11, none⟩ = some (.bool b.asl) := HA2.out.cell 11
  have r11 : w2.cell? ⟨a + 1, 11, none⟩ = some (.bool b.asl) := HC2.out.cell 11
  have p12 : w2.cell? ⟨a, 12, none⟩ = some (.int .i64 b.calm) := HA2.out.cell 12
  have r12 : w2.cell? ⟨a + 1, 12, none⟩ = some (.int .i64 b.calm) := HC2.out.cell 12
  have fp := HA2.out.frozen 10
  have fr := HC2.out.frozen 10
  go_wp2_with fail
  go_ret
  have hlo1 : w.heap.size ≤ a := by rw [HLO.out]; exact Nat.le_refl _
  have hlo2 : w.heap.size ≤ a + 1 := by omega
  have hbx := HB2.out
  exact ⟨rfl, (hbx.setCell (p := ⟨a, 10, none⟩) hlo1 _).setCell (p := ⟨a + 1, 10, none⟩) hlo2 _⟩
/-! ### Bu -/
set_option maxHeartbeats 8000000 in
theorem eqBodies_any {w : World} {B B' base base' n c c' : Nat} {A A' : Option Addr} {l l' : List Bm} (hn : n = l.length) (hm : n ≤ 9223372036854775807) (hr : Rd w B 13 A n (bmCs l)) (hr' : Rd w B' 13 A' n (bmCs l')) (hB : B ≤ w.heap.size) (hB' : B' ≤ w.heap.size)
    (hy : ∀ x ∈ l, BmY w base x) (hy' : ∀ x ∈ l', BmY w base' x) (he : l.map Bm.b = l'.map Bm.b) :
    Calls Try.prog 58 #[.slice A n c, .slice A' n c', .func (.func 59) #[] #[]] w fun e w' => e = .returned (.bool true) ∧ Below w.heap.size w w' := by
  have t0 : ((n : Int) != n) = false := by simp
  have HN := Lib.hid hn
  have HR := Lib.hid hr
  have HR' := Lib.hid hr'
  have HY := Lib.hid hy
  have HY' := Lib.hid hy'
  have HE := Lib.hid he
  have HBB : Hid (B ≤ w.heap.size ∧ B' ≤ w.heap.size) := Lib.hid ⟨hB, hB'⟩
  clear hn hr hr' hy hy' he hB hB'
  go_enter Try.func58, Try.ntmps58
  go_wp2_with fail
  go_loopw [17] (fun i wr => ∃ k : Nat, k ≤ n ∧ i = .int .i64 k ∧ Hid (Below w.heap.size w wr)) (fun i _ => n - (intOf i).toNat)
  case atStart => exact ⟨0, Nat.zero_le _, rfl, Lib.hid (Below.refl _ _)⟩
  case round =>
    obtain ⟨k, hk, rfl, HW⟩ := hrel
    by_cases hlt : k < n
    · obtain ⟨x, hx⟩ : ∃ x, l[k]? = some x := ⟨_, List.getElem?_eq_getElem (by have := HN.out; omega)⟩
      obtain ⟨y, hy⟩ : ∃ y, l'[k]? = some y := ⟨_, List.getElem?_eq_getElem (by have h1 := HN.out; have h2 := congrArg List.length HE.out; simp at h2; omega)⟩
      have hb : x.b = y.b := by
        have h1 := congrArg (fun z => z[k]?) HE.out
        simp only [List.getElem?_map, hx, hy, Option.map_some] at h1
        exact Option.some.inj h1
      obtain ⟨ba, bo, rfl, _, p0, p1, p2, p3, p4, p5, p6, p7, p8, p9, p10, p11, p12⟩ := (HR.out.below (HW.out.mono HBB.out.1)).bm hlt hx
      obtain ⟨ba', bo', rfl, hlt', r0, r1, r2, r3, r4, r5, r6, r7, r8, r9, r10, r11, r12⟩ := (HR'.out.below (HW.out.mono HBB.out.2)).bm hlt hy
      have hcx := HY.out x (List.mem_of_getElem? hx)
      have hcy := HY'.out y (List.mem_of_getElem? hy)
      obtain ⟨b, g, cx⟩ := x
      obtain ⟨b', g', cy⟩ := y
      dsimp only at hb
      subst hb
      dsimp only at p0 p1 p2 p3 p4 p5 p6 p7 p8 p9 p10 p11 p12 r0 r1 r2 r3 r4 r5 r6 r7 r8 r9 r10 r11 r12
      obtain ⟨W2, hW2⟩ : ∃ z, z = (wr.alloc (.cells #[.int .i64 b.px, .int .i64 b.py, .int .i64 b.vx, .int .i64 b.vy, .int .i64 b.ang, .int .i64 b.spin, .int .i64 b.mass, .int .i64 b.inr, .int .i64 b.bou, .int .i64 b.rub, .slice (some ⟨g, 0, none⟩) 4 cx, .bool b.asl, .int .i64 b.calm] 124)).alloc (.cells #[.int .i64 b.px, .int .i64 b.py, .int .i64 b.vx, .int .i64 b.vy, .int .i64 b.ang, .int .i64 b.spin, .int .i64 b.mass, .int .i64 b.inr, .int .i64 b.bou, .int .i64 b.rub, .slice (some ⟨g', 0, none⟩) 4 cy, .bool b.asl, .int .i64 b.calm] 124) := ⟨_, rfl⟩
      obtain ⟨a, ha⟩ : ∃ z, z = wr.heap.size := ⟨_, rfl⟩
      have hb2 : Below wr.heap.size wr W2 := by rw [hW2]; exact ((Below.refl _ _).alloc (Nat.le_refl _) _).alloc (by simp) _
      have HA : Hid (Bk W2 a 124 #[.int .i64 b.px, .int .i64 b.py, .int .i64 b.vx, .int .i64 b.vy, .int .i64 b.ang, .int .i64 b.spin, .int .i64 b.mass, .int .i64 b.inr, .int .i64 b.bou, .int .i64 b.rub, .slice (some ⟨g, 0, none⟩) 4 cx, .bool b.asl, .int .i64 b.calm]) := Lib.hid (by rw [hW2, ha]; exact (Bk.new _ _ _).alloc _)
      have HC : Hid (Bk W2 (a + 1) 124 #[.int .i64 b.px, .int .i64 b.py, .int .i64 b.vx, .int .i64 b.vy, .int .i64 b.ang, .int .i64 b.spin, .int .i64 b.mass, .int .i64 b.inr, .int .i64 b.bou, .int .i64 b.rub, .slice (some ⟨g', 0, none⟩) 4 cy, .bool b.asl, .int .i64 b.calm]) := Lib.hid (by rw [hW2, ha]; exact Bk.twoB _ _ _ _)
      have hbw : Below w.heap.size w W2 := HW.out.trans (hb2.mono HW.out.size)
      have hcl := same59_any (b := b) (c := cx) (c' := cy) ((RdP.of_own hcx).rd.below hbw) ((RdP.of_own hcy).rd.below hbw) hbw.size hbw.size
      have HCL := Lib.hid hcl
      have HBW := Lib.hid hbw
      have hkn : (k : Int) < n := by omega
      have hk0 : (0 : Int) ≤ k := by omega
      clear hx hy hcx hcy hcl hbw hb2
      obtain ⟨W1, hW1⟩ : ∃ z, z = wr.alloc (.cells #[.int .i64 b.px, .int .i64 b.py, .int .i64 b.vx, .int .i64 b.vy, .int .i64 b.ang, .int .i64 b.spin, .int .i64 b.mass, .int .i64 b.inr, .int .i64 b.bou, .int .i64 b.rub, .slice (some ⟨g, 0, none⟩) 4 cx, .bool b.asl, .int .i64 b.calm] 124) := ⟨_, rfl⟩
      have hb1 : Below wr.heap.size wr W1 := by rw [hW1]; exact (Below.refl _ _).alloc (Nat.le_refl _) _
      have hl1 : ba' < wr.heap.size := by have h1 := HBB.out.2; have h2 := HW.out.size; omega
      have hs1 : W1.heap.size = a + 1 := by rw [hW1, ha]; simp
      rw [← hW1] at hW2
      go_upto_region 6 with fail
      rw [← hW1, ← ha]
      have v0 : W1.cell? ⟨ba', bo' + k * 13, none⟩ = some (.int .i64 b.px) := (hb1.cell (p := ⟨ba', bo' + k * 13, none⟩) hl1).trans r0
      have v1 : W1.cell? ⟨ba', bo' + k * 13 + 1, none⟩ = some (.int .i64 b.py) := (hb1.cell (p := ⟨ba', bo' + k * 13 + 1, none⟩) hl1).trans r1
      have v2 : W1.cell? ⟨ba', bo' + k * 13 + 2, none⟩ = some (.int .i64 b.vx) := (hb1.cell (p := ⟨ba', bo' + k * 13 + 2, none⟩) hl1).trans r2
      have v3 : W1.cell? ⟨ba', bo' + k * 13 + 3, none⟩ = some (.int .i64 b.vy) := (hb1.cell (p := ⟨ba', bo' + k * 13 + 3, none⟩) hl1).trans r3
      have v4 : W1.cell? ⟨ba', bo' + k * 13 + 4, none⟩ = some (.int .i64 b.ang) := (hb1.cell (p := ⟨ba', bo' + k * 13 + 4, none⟩) hl1).trans r4
      have v5 : W1.cell? ⟨ba', bo' + k * 13 + 5, none⟩ = some (.int .i64 b.spin) := (hb1.cell (p := ⟨ba', bo' + k * 13 + 5, none⟩) hl1).trans r5
      have v6 : W1.cell? ⟨ba', bo' + k * 13 + 6, none⟩ = some (.int .i64 b.mass) := (hb1.cell (p := ⟨ba', bo' + k * 13 + 6, none⟩) hl1).trans r6
      have v7 : W1.cell? ⟨ba', bo' + k * 13 + 7, none⟩ = some (.int .i64 b.inr) := (hb1.cell (p := ⟨ba', bo' + k * 13 + 7, none⟩) hl1).trans r7
      have v8 : W1.cell? ⟨ba', bo' + k * 13 + 8, none⟩ = some (.int .i64 b.bou) := (hb1.cell (p := ⟨ba', bo' + k * 13 + 8, none⟩) hl1).trans r8
      have v9 : W1.cell? ⟨ba', bo' + k * 13 + 9, none⟩ = some (.int .i64 b.rub) := (hb1.cell (p := ⟨ba', bo' + k * 13 + 9, none⟩) hl1).trans r9
      have v10 : W1.cell? ⟨ba', bo' + k * 13 + 10, none⟩ = some (.slice (some ⟨g', 0, none⟩) 4 cy) := (hb1.cell (p := ⟨ba', bo' + k * 13 + 10, none⟩) hl1).trans r10
      have v11 : W1.cell? ⟨ba', bo' + k * 13 + 11, none⟩ = some (.bool b.asl) := (hb1.cell (p := ⟨ba', bo' + k * 13 + 11, none⟩) hl1).trans r11
      have v12 : W1.cell? ⟨ba', bo' + k * 13 + 12, none⟩ = some (.int .i64 b.calm) := (hb1.cell (p := ⟨ba', bo' + k * 13 + 12, none⟩) hl1).trans r12
      clear hW1 p0 p1 p2 p3 p4 p5 p6 p7 p8 p9 p10 p11 p12 r0 r1 r2 r3 r4 r5 r6 r7 r8 r9 r10 r11 r12 hb1 hl1
      go_upto_region 7 with fail
      rw [← hW2]
      (try rw [← ha])
      clear hW2 ha hs1 v0 v1 v2 v3 v4 v5 v6 v7 v8 v9 v10 v11 v12
      have s0 : W2.cell? ⟨a, 0, none⟩ = some (.int .i64 b.px) := HA.out.cell 0
      have t1 : W2.cell? ⟨a + 1, 0, none⟩ = some (.int .i64 b.px) := HC.out.cell 0
      have s1 : W2.cell? ⟨a, 1, none⟩ = some (.int .i64 b.py) := HA.out.cell 1
      have t2 : W2.cell? ⟨a + 1, 1, none⟩ = some (.int .i64 b.py) := HC.out.cell 1
      have s2 : W2.cell? ⟨a, 2, none⟩ = some (.int .i64 b.vx) := HA.out.cell 2
      have t3 : W2.cell? ⟨a + 1, 2, none⟩ = some (.int .i64 b.vx) := HC.out.cell 2
      have s3 : W2.cell? ⟨a, 3, none⟩ = some (.int .i64 b.vy) := HA.out.cell 3
      have t4 : W2.cell? ⟨a + 1, 3, none⟩ = some (.int .i64 b.vy) := HC.out.cell 3
      have s4 : W2.cell? ⟨a, 4, none⟩ = some (.int .i64 b.ang) := HA.out.cell 4
      have t5 : W2.cell? ⟨a + 1, 4, none⟩ = some (.int .i64 b.ang) := HC.out.cell 4
      have s5 : W2.cell? ⟨a, 5, none⟩ = some (.int .i64 b.spin) := HA.out.cell 5
      have t6 : W2.cell? ⟨a + 1, 5, none⟩ = some (.int .i64 b.spin) := HC.out.cell 5
      have s6 : W2.cell? ⟨a, 6, none⟩ = some (.int .i64 b.mass) := HA.out.cell 6
      have t7 : W2.cell? ⟨a + 1, 6, none⟩ = some (.int .i64 b.mass) := HC.out.cell 6
      have s7 : W2.cell? ⟨a, 7, none⟩ = some (.int .i64 b.inr) := HA.out.cell 7
      have t8 : W2.cell? ⟨a + 1, 7, none⟩ = some (.int .i64 b.inr) := HC.out.cell 7
      have s8 : W2.cell? ⟨a, 8, none⟩ = some (.int .i64 b.bou) := HA.out.cell 8
      have t9 : W2.cell? ⟨a + 1, 8, none⟩ = some (.int .i64 b.bou) := HC.out.cell 8
      have s9 : W2.cell? ⟨a, 9, none⟩ = some (.int .i64 b.rub) := HA.out.cell 9
      have t10 : W2.cell? ⟨a + 1, 9, none⟩ = some (.int .i64 b.rub) := HC.out.cell 9
      have s10 : W2.cell? ⟨a, 10, none⟩ = some (.slice (some ⟨g, 0, none⟩) 4 cx) := HA.out.cell 10
      have t11 : W2.cell? ⟨a + 1, 10, none⟩ = some (.slice (some ⟨g', 0, none⟩) 4 cy) := HC.out.cell 10
      have s11 : W2.cell? ⟨a, 11, none⟩ = some (.bool b.asl) := HA.out.cell 11
      have t12 : W2.cell? ⟨a + 1, 11, none⟩ = some (.bool b.asl) := HC.out.cell 11
      have s12 : W2.cell? ⟨a, 12, none⟩ = some (.int .i64 b.calm) := HA.out.cell 12
      have t13 : W2.cell? ⟨a + 1, 12, none⟩ = some (.int .i64 b.calm) := HC.out.cell 12
      go_wp2_with fail
      (with_reducible refine HCL.out.mono ?_)
      rintro e w3 ⟨rfl, hb3⟩
      have HB3 := Lib.hid (HBW.out.trans (hb3.mono HBW.out.size))
      clear hb3 HBW HA HC HCL s0 t1 s1 t2 s2 t3 s3 t4 s4 t5 s5 t6 s6 t7 s7 t8 s8 t9 s9 t10 s10 t11 s11 t12 s12 t13
      go_wp2_with fail
      go_roundw
      case measure => simp [intOf]; omega
      case rel => exact ⟨k + 1, by omega, by go_num, HB3⟩
    · go_wp2
      go_ret
      exact ⟨rfl, HW.out⟩
/-! ### Kr -/
theorem mapF_k4 : mapF k4 = ((1, 2, 3), 0) := by decide +kernel
set_option maxHeartbeats 800000 in
theorem bodies_say : BodiesSay := by
  intro w
  have HK := Lib.hid kinds4_any
  go_enter Try.func21, Try.ntmps21
  go_wp2_with fail
  refine (HK.out _).mono ?_
  rintro e w1 ⟨A, c, ks, rfl, hks, hp, hb⟩
  have hof := of_says hks
  rw [hp, mapF_k4] at hof
  have HOF := Lib.hid hof
  have HB := Lib.hid hb
  clear hof hks hp hb
  go_wp2_with fail
  refine HOF.out.mono ?_
  rintro e w2 ⟨rfl, hb2⟩
  have HB2 := Lib.hid (HB.out.trans (hb2.mono HB.out.size))
  clear hb2
  dsimp only
  go_wp2_with fail
  go_ret
  exact ⟨rfl, HB2.out.alloc HB2.out.size _⟩
end Go.Proofs.Ytnidcmhfbkdioaa
