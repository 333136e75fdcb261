/-
  tourmake.system: an argument is drawn. Conditions: what is read can be read.
-/
import Derived.Test.YtnidcmhfbkdioaaSz19
import Derived.Test.YtnidcmhfbkdioaaSz11
namespace Go.Proofs.Ytnidcmhfbkdioaa
open Go.RowKit
set_option maxRecDepth 100000
/-- What the closure needs: the boxes of the stream, of what was seen, and of the kinds. -/
structure ArgI (w : World) (B s hp hs hk : Nat) (SA : Option Addr) (sn sc : Nat) (xs : List Int) (kA : Option Addr) (kn kc : Nat) (ks : List Kd) : Prop where
  st : StrSt w B s
  bp : Bk w hp 187 #[.pointer (some ⟨s, 0, none⟩)]
  bs : Bk w hs 30 #[.slice SA sn sc]
  bk : Bk w hk 22 #[.slice kA kn kc]
  rd : RdY w 0 3 1 SA sn (xs.map (Value.int .i64))
  cap : sn ≤ sc
  cap2 : sc ≤ 9223372036854775807
  pos : 0 < sn
  few : sn ≤ 1000
  inn : ∀ x ∈ xs, 0 ≤ x ∧ x < kn
  kd : KsY w 0 kA kn kc ks
  fd : ∀ k ∈ ks, 1 ≤ k.n ∧ k.n ≤ 8
section
variable {w w' : World} {B s hp hs hk sn sc kn kc : Nat} {SA kA : Option Addr} {xs : List Int} {ks : List Kd}
theorem ArgI.fq (h : ArgI w B s hp hs hk SA sn sc xs kA kn kc ks) (hst : StrSt w' B s) (hq : Fq [s] w w') : ArgI w' B s hp hs hk SA sn sc xs kA kn kc ks := by
  have hx := Kx.fq (B' := 0) hq h.st (Nat.zero_le _)
  exact ⟨hst, hx.bk h.bp (by decide), hx.bk h.bs (by decide), hx.bk h.bk (by decide), h.rd.keep hx (by decide), h.cap, h.cap2, h.pos, h.few, h.inn, h.kd.keep hx (by decide) (by decide), h.fd⟩
end
theorem arg_end {w w1 w2 : World} {B s r : Nat} (hst : StrSt w2 B s) (_hB : B ≤ s) (hr : Bk w2 r 341 #[.bool false, .int .i64 0, .int .i64 0, .int .i64 0]) (h2 : Fq [s] w1 w2) (h1 : Fq [s] w w1) (hrw : w.heap.size ≤ r) (hBw : B ≤ w.heap.size) (V0 V1 V2 V3 : Value) :
    StrSt ((((w2.setCell ⟨r, 0, none⟩ V0).setCell ⟨r, 1, none⟩ V1).setCell ⟨r, 2, none⟩ V2).setCell ⟨r, 3, none⟩ V3) B s ∧ Fq [s] w ((((w2.setCell ⟨r, 0, none⟩ V0).setCell ⟨r, 1, none⟩ V1).setCell ⟨r, 2, none⟩ V2).setCell ⟨r, 3, none⟩ V3) := by
  have hk : Kx 0 [341] w2 ((((w2.setCell ⟨r, 0, none⟩ V0).setCell ⟨r, 1, none⟩ V1).setCell ⟨r, 2, none⟩ V2).setCell ⟨r, 3, none⟩ V3) := (((Kx.refl.set hr (Nat.zero_le _) (by simp) 0 V0).set (hr.set_ 0 V0) (Nat.zero_le _) (by simp) 1 V1).set ((hr.set_ 0 V0).set_ 1 V1) (Nat.zero_le _) (by simp) 2 V2).set (((hr.set_ 0 V0).set_ 1 V1).set_ 2 V2) (Nat.zero_le _) (by simp) 3 V3
  have hq := h1.trans h2 (SubF.refl _ _)
  refine ⟨?_, (((hq.set (.inr hrw) 0 V0).set (.inr hrw) 1 V1).set (.inr hrw) 2 V2).set (.inr hrw) 3 V3⟩
  obtain ⟨A, n, c, zs, a1, a2, a3, a4, a5, a6⟩ := hst
  have hqx : ∀ b, b < B → b ≠ r → ((((w2.setCell ⟨r, 0, none⟩ V0).setCell ⟨r, 1, none⟩ V1).setCell ⟨r, 2, none⟩ V2).setCell ⟨r, 3, none⟩ V3).heap[b]? = w2.heap[b]? := fun b _ hb => by
    exact (((Below.heap_setCell _ _ _ _ hb).trans (Below.heap_setCell _ _ _ _ hb)).trans (Below.heap_setCell _ _ _ _ hb)).trans (Below.heap_setCell _ _ _ _ hb)
  refine ⟨A, n, c, zs, hk.bk a1 (by decide), a2, a3, a4, a5.keep fun b hb => ?_, a6⟩
  exact hqx b hb (by omega)
set_option maxHeartbeats 8000000 in
theorem arg237_any {w : World} {B s hp hs hkb sn sc kn kc : Nat} {SA kA : Option Addr} {xs : List Int} {ks : List Kd} (h : ArgI w B s hp hs hkb SA sn sc xs kA kn kc ks) (hB : B ≤ s) :
    Calls Try.prog 237 #[.pointer (some ⟨hp, 0, none⟩), .pointer (some ⟨hs, 0, none⟩), .pointer (some ⟨hkb, 0, none⟩)] w fun e w' => ∃ (b : Bool) (x y z : Int), e = .returned (.agg #[.bool b, .int .i64 x, .int .i64 y, .int .i64 z]) ∧ StrSt w' B s ∧ Fq [s] w w' := by
  obtain ⟨W0, hW0⟩ : ∃ z, z = w.alloc (.cells #[.bool false, .int .i64 0, .int .i64 0, .int .i64 0] 341) := ⟨_, rfl⟩
  obtain ⟨r, hr⟩ : ∃ z, z = w.heap.size := ⟨_, rfl⟩
  have HQ0 : Hid (Fq [s] w W0) := Lib.hid (by rw [hW0]; exact Fq.of_below ((Below.refl _ _).alloc (Nat.le_refl _) _))
  have HB0 : Hid (Below w.heap.size w W0) := Lib.hid (by rw [hW0]; exact (Below.refl _ _).alloc (Nat.le_refl _) _)
  have HI0 : Hid (ArgI W0 B s hp hs hkb SA sn sc xs kA kn kc ks) := Lib.hid (h.fq (h.st.below HB0.out (h.st.lo hB)) HQ0.out)
  have HR0 : Hid (Bk W0 r 341 #[.bool false, .int .i64 0, .int .i64 0, .int .i64 0]) := Lib.hid (by rw [hW0, hr]; exact Bk.new _ _ _)
  have HNX := Lib.hid next_any
  have hrs : r ≠ s := by
    obtain ⟨cs, h1⟩ := h.st.bk
    have := h1.lt
    omega
  have HRW : Hid (w.heap.size ≤ r) := Lib.hid (by omega)
  have HBW : Hid (B ≤ w.heap.size) := Lib.hid (h.st.lo hB)
  have hpos := h.pos
  have hfew := h.few
  have hcap := h.cap
  have hcap2 := h.cap2
  have hkcap := h.kd.cap
  have hkcap2 := h.kd.cap2
  clear h
  have b0 : W0.cell? ⟨hp, 0, none⟩ = some (.pointer (some ⟨s, 0, none⟩)) := HI0.out.bp.cell 0
  go_enter Try.func237, Try.ntmps237
  go_upto_region 1 with fail
  rw [← hW0, ← hr]
  clear hW0 hr
  go_wp2_with fail
  (with_reducible refine (HNX.out s B 2 _ HI0.out.st hB (by omega) (by omega)).mono ?_)
  rintro e w1 ⟨v, rfl, hv0, hv1, hst1, hg1⟩
  have HR1 : Hid (Bk w1 r 341 #[.bool false, .int .i64 0, .int .i64 0, .int .i64 0]) := Lib.hid (HR0.out.grown hg1 (fun e => by injection e with e; omega))
  have HQ1 : Hid (Fq [s] W0 w1) := Lib.hid (Fq.refl.grown hg1 fun g hg => .inl (by injection hg with hg; simp [hg]))
  have HI1 : Hid (ArgI w1 B s hp hs hkb SA sn sc xs kA kn kc ks) := Lib.hid (HI0.out.fq hst1 HQ1.out)
  have HQw1 : Hid (Fq [s] w w1) := Lib.hid (HQ0.out.trans HQ1.out (SubF.refl _ _))
  clear hst1 hg1 HR0 HI0 HQ0 HQ1 b0
  have b1 : w1.cell? ⟨hp, 0, none⟩ = some (.pointer (some ⟨s, 0, none⟩)) := HI1.out.bp.cell 0
  by_cases hvz : v = 0
  · have t0 : (v == 0) = true := by simp [hvz]
    clear hvz
    go_wp2_with fail
    (with_reducible refine (HNX.out s B 20 _ HI1.out.st hB (by omega) (by omega)).mono ?_)
    rintro e w2 ⟨u, rfl, hu0, hu1, hst2, hg2⟩
    have hR2 : Bk w2 r 341 #[.bool false, .int .i64 0, .int .i64 0, .int .i64 0] := HR1.out.grown hg2 (fun e => by injection e with e; omega)
    have HQ2 : Hid (Fq [s] w1 w2) := Lib.hid (Fq.refl.grown hg2 fun g hg => .inl (by injection hg with hg; simp [hg]))
    have HS2 := Lib.hid hst2
    clear hst2 hg2 HR1
    have z0 : w2.cell? ⟨r, 0, none⟩ = some (.bool false) := hR2.cell 0
    have z1 : w2.cell? ⟨r, 1, none⟩ = some (.int .i64 0) := hR2.cell 1
    have z2 : w2.cell? ⟨r, 2, none⟩ = some (.int .i64 0) := hR2.cell 2
    have z3 : w2.cell? ⟨r, 3, none⟩ = some (.int .i64 0) := hR2.cell 3
    have y0 := hR2.frozen 0
    have y1 := hR2.frozen 1
    have y2 := hR2.frozen 2
    have y3 := hR2.frozen 3
    have HK : Hid (∀ V0 V1 V2 V3, StrSt ((((w2.setCell ⟨r, 0, none⟩ V0).setCell ⟨r, 1, none⟩ V1).setCell ⟨r, 2, none⟩ V2).setCell ⟨r, 3, none⟩ V3) B s ∧ Fq [s] w ((((w2.setCell ⟨r, 0, none⟩ V0).setCell ⟨r, 1, none⟩ V1).setCell ⟨r, 2, none⟩ V2).setCell ⟨r, 3, none⟩ V3)) := Lib.hid fun V0 V1 V2 V3 => arg_end HS2.out hB hR2 HQ2.out HQw1.out HRW.out HBW.out V0 V1 V2 V3
    clear hR2
    go_wp2_with fail
    (try simp only [Exit.inBlock, Exit.then])
    refine bodyPost_ret (v := .agg #[.bool false, .int .i64 (u - 6), .int .i64 0, .int .i64 0]) ?_ rfl ⟨false, _, 0, 0, rfl, (HK.out _ _ _ _).1, (HK.out _ _ _ _).2⟩
    rw [results_c1 rfl]
    go_simp
  · have t0 : (v == 0) = false := by simp [hvz]
    clear hvz
    go_upto_region 3 with fail
    clear b1 hv0 hv1
    obtain ⟨u1, hu1⟩ : ∃ z, z = w1.drew := ⟨_, rfl⟩
    have HC1 : Hid (ArgI u1 B s hp hs hkb SA sn sc xs kA kn kc ks) := Lib.hid (by rw [hu1]; exact HI1.out.fq (HI1.out.st.below (Below.refl _ _).drew (HI1.out.st.lo hB)) (Fq.refl.drew))
    have HRu : Hid (Bk u1 r 341 #[.bool false, .int .i64 0, .int .i64 0, .int .i64 0]) := Lib.hid (by rw [hu1]; exact HR1.out.drew)
    have HQu : Hid (Fq [s] w u1) := Lib.hid (by rw [hu1]; exact HQw1.out.drew)
    clear HI1 HR1 HQw1
    refine wp_region_H (S := fun wz => wz.cell? ⟨hp, 0, none⟩ = some (.pointer (some ⟨s, 0, none⟩)) ∧ wz.cell? ⟨hs, 0, none⟩ = some (.slice SA sn sc)) (by kernel_rfl) ?_
    rw [← hu1]
    clear hu1
    have HS : Hid (∀ wz, ArgI wz B s hp hs hkb SA sn sc xs kA kn kc ks → wz.cell? ⟨hp, 0, none⟩ = some (.pointer (some ⟨s, 0, none⟩)) ∧ wz.cell? ⟨hs, 0, none⟩ = some (.slice SA sn sc)) := Lib.hid fun wz h => ⟨h.bp.cell 0, h.bs.cell 0⟩
    refine wpAnyH_val (i := 0) (v := .slice SA sn sc) (d := some 12) rfl rfl (by kernel_rfl) (by kernel_rfl) (by kernel_rfl) (fun _ _ _ h => h) (Or.inl ⟨by rfl, fun w hS => by (obtain ⟨h0, h1⟩ := hS; go_simp)⟩) (HS.out _ HC1.out) ?_
    (try simp only [Act.put, List.setIfInBounds_toArray, List.set_cons_zero, List.set_cons_succ])
    refine wpAnyH_val (i := 1) (v := .pointer (some ⟨s, 0, none⟩)) (d := some 13) rfl rfl (by kernel_rfl) (by kernel_rfl) (by kernel_rfl) (fun _ _ _ h => h) (Or.inl ⟨by rfl, fun w hS => by (obtain ⟨h0, h1⟩ := hS; go_simp)⟩) (HS.out _ HC1.out) ?_
    (try simp only [Act.put, List.setIfInBounds_toArray, List.set_cons_zero, List.set_cons_succ])
    refine wpAnyH_val (i := 2) (v := .slice SA sn sc) (d := some 14) rfl rfl (by kernel_rfl) (by kernel_rfl) (by kernel_rfl) (fun _ _ _ h => h) (Or.inl ⟨by rfl, fun w hS => by (obtain ⟨h0, h1⟩ := hS; go_simp)⟩) (HS.out _ HC1.out) ?_
    (try simp only [Act.put, List.setIfInBounds_toArray, List.set_cons_zero, List.set_cons_succ])
    refine wpAnyH_val (i := 3) (v := .int .i64 (sn : Int)) (d := some 15) rfl rfl (by kernel_rfl) (by kernel_rfl) (by kernel_rfl) (fun _ _ _ h => h) (Or.inl ⟨by rfl, fun w hS => by (obtain ⟨h0, h1⟩ := hS; go_simp)⟩) (HS.out _ HC1.out) ?_
    (try simp only [Act.put, List.setIfInBounds_toArray, List.set_cons_zero, List.set_cons_succ])
    refine wpAnyH_oneW (i := 4) rfl (by kernel_rfl) (by rfl) ?_
    go_simp
    go_at_call 98
    (with_reducible refine (HNX.out s B sn _ HC1.out.st hB (by omega) (by omega)).mono ?_)
    rintro e u2 ⟨p, rfl, hp0, hp1, hst2, hg2⟩
    obtain ⟨p, rfl⟩ : ∃ N : Nat, p = N := ⟨p.toNat, by omega⟩
    have HQ2 : Hid (Fq [s] u1 u2) := Lib.hid (Fq.refl.grown hg2 fun g hg => .inl (by injection hg with hg; simp [hg]))
    have HC2 : Hid (ArgI u2 B s hp hs hkb SA sn sc xs kA kn kc ks) := Lib.hid (HC1.out.fq hst2 HQ2.out)
    have HRu2 : Hid (Bk u2 r 341 #[.bool false, .int .i64 0, .int .i64 0, .int .i64 0]) := Lib.hid (HRu.out.grown hg2 (fun e => by injection e with e; omega))
    have HQu2 : Hid (Fq [s] w u2) := Lib.hid (HQu.out.trans HQ2.out (SubF.refl _ _))
    clear hst2 hg2
    refine And.intro (HS.out _ HC2.out) ?_
    (try simp only [Act.put, List.setIfInBounds_toArray, List.set_cons_zero, List.set_cons_succ])
    have hpn : p < sn := by omega
    obtain ⟨x, hx⟩ : ∃ x, xs[p]? = some x := ⟨_, List.getElem?_eq_getElem (by have := HC2.out.rd.1; simp at this; omega)⟩
    obtain ⟨sb, so, rfl, hsb, hsc⟩ := HC2.out.rd.rd.at1 hpn (u := .int .i64 x) (by rw [List.getElem?_map, hx]; rfl)
    have hxin := HC2.out.inn x (List.mem_of_getElem? hx)
    obtain ⟨x, rfl⟩ : ∃ N : Nat, x = N := ⟨x.toNat, by omega⟩
    have hsc2 : u2.cell? ⟨sb, so + p, none⟩ = some (.int .i64 x) := hsc
    clear hx hsb hsc
    refine wpAnyH_oneW (i := 5) rfl (by kernel_rfl) (by rfl) ?_
    go_simp
    refine And.intro (HS.out _ HC2.out) ?_
    (try simp only [Act.put, List.setIfInBounds_toArray, List.set_cons_zero, List.set_cons_succ])
    refine wpAnyH_oneW (i := 6) rfl (by kernel_rfl) (by rfl) ?_
    go_simp
    refine And.intro (HS.out _ HC2.out) ?_
    (try simp only [Act.put, List.setIfInBounds_toArray, List.set_cons_zero, List.set_cons_succ])
    refine wpAnyH_oneW (i := 7) rfl (by kernel_rfl) (by rfl) ?_
    go_simp
    refine And.intro (HS.out _ HC2.out) ?_
    (try simp only [Act.put, List.setIfInBounds_toArray, List.set_cons_zero, List.set_cons_succ])
    refine wpAnyH_done (by kernel_rfl) ?_ _
    clear HS HC1 HRu HQu HQ2 hsc2
    obtain ⟨k, hk⟩ : ∃ k, ks[x]? = some k := ⟨_, List.getElem?_eq_getElem (by have := HC2.out.kd.len; omega)⟩
    have hxk : x < kn := by omega
    obtain ⟨kb, ko, rfl, hkbl, q0, q1⟩ := HC2.out.kd.rd.rd.kd hxk hk
    have hkf := HC2.out.fd k (List.mem_of_getElem? hk)
    have hkko := HC2.out.kd.ok k (List.mem_of_getElem? hk)
    have hkc1 := hkko.cap
    have hkc2 := hkko.cap2
    have HKV : Hid (∀ wz, ArgI wz B s hp hs hkb (some ⟨sb, so, none⟩) sn sc xs (some ⟨kb, ko, none⟩) kn kc ks → wz.cell? ⟨hp, 0, none⟩ = some (.pointer (some ⟨s, 0, none⟩)) ∧ wz.cell? ⟨hkb, 0, none⟩ = some (.slice (some ⟨kb, ko, none⟩) kn kc) ∧ wz.cell? ⟨kb, ko + x * 2 + 1, none⟩ = some (.slice k.A k.n k.c)) := Lib.hid fun wz h => by
      obtain ⟨b', o', hA, _, _, q1'⟩ := h.kd.rd.rd.kd hxk hk
      injection hA with hA
      injection hA with h1 h2
      subst h1; subst h2
      exact ⟨h.bp.cell 0, h.bk.cell 0, q1'⟩
    clear hk hkko hkbl q0 q1
    generalize k.A = fA at *
    generalize k.n = fn at *
    generalize k.c = fc at *
    go_upto_region 4 with fail
    obtain ⟨u3, hu3⟩ : ∃ z, z = u2.drew := ⟨_, rfl⟩
    have HC3 : Hid (ArgI u3 B s hp hs hkb (some ⟨sb, so, none⟩) sn sc xs (some ⟨kb, ko, none⟩) kn kc ks) := Lib.hid (by rw [hu3]; exact HC2.out.fq (HC2.out.st.below (Below.refl _ _).drew (HC2.out.st.lo hB)) (Fq.refl.drew))
    have HRu3 : Hid (Bk u3 r 341 #[.bool false, .int .i64 0, .int .i64 0, .int .i64 0]) := Lib.hid (by rw [hu3]; exact HRu2.out.drew)
    have HQu3 : Hid (Fq [s] w u3) := Lib.hid (by rw [hu3]; exact HQu2.out.drew)
    clear HC2 HRu2 HQu2
    refine wp_region_L (late := [11]) (S := fun wz => wz.cell? ⟨hp, 0, none⟩ = some (.pointer (some ⟨s, 0, none⟩)) ∧ wz.cell? ⟨hkb, 0, none⟩ = some (.slice (some ⟨kb, ko, none⟩) kn kc) ∧ wz.cell? ⟨kb, ko + x * 2 + 1, none⟩ = some (.slice fA fn fc)) (by kernel_rfl) ?_
    rw [← hu3]
    clear hu3
    refine wpAnyL_val (i := 0) (v := .int .i64 (x : Int)) (d := some 19) rfl rfl (by kernel_rfl) (by kernel_rfl) (by kernel_rfl) (by kernel_rfl) (fun _ _ _ h => h) (Or.inl ⟨by rfl, fun w hS => by (obtain ⟨h0, h1, h2⟩ := hS; go_simp)⟩) (HKV.out _ HC3.out) ?_
    (try simp only [Act.put, List.setIfInBounds_toArray, List.set_cons_zero, List.set_cons_succ])
    refine wpAnyL_val (i := 1) (v := .pointer (some ⟨s, 0, none⟩)) (d := some 20) rfl rfl (by kernel_rfl) (by kernel_rfl) (by kernel_rfl) (by kernel_rfl) (fun _ _ _ h => h) (Or.inl ⟨by rfl, fun w hS => by (obtain ⟨h0, h1, h2⟩ := hS; go_simp)⟩) (HKV.out _ HC3.out) ?_
    (try simp only [Act.put, List.setIfInBounds_toArray, List.set_cons_zero, List.set_cons_succ])
    refine wpAnyL_val (i := 2) (v := .slice (some ⟨kb, ko, none⟩) kn kc) (d := some 21) rfl rfl (by kernel_rfl) (by kernel_rfl) (by kernel_rfl) (by kernel_rfl) (fun _ _ _ h => h) (Or.inl ⟨by rfl, fun w hS => by (obtain ⟨h0, h1, h2⟩ := hS; go_simp)⟩) (HKV.out _ HC3.out) ?_
    (try simp only [Act.put, List.setIfInBounds_toArray, List.set_cons_zero, List.set_cons_succ])
    refine wpAnyL_val (i := 3) (v := .int .i64 (x : Int)) (d := some 22) rfl rfl (by kernel_rfl) (by kernel_rfl) (by kernel_rfl) (by kernel_rfl) (fun _ _ _ h => h) (Or.inl ⟨by rfl, fun w hS => by (obtain ⟨h0, h1, h2⟩ := hS; go_simp)⟩) (HKV.out _ HC3.out) ?_
    (try simp only [Act.put, List.setIfInBounds_toArray, List.set_cons_zero, List.set_cons_succ])
    refine wpAnyL_val (i := 4) (v := .pointer (some ⟨kb, ko + x * 2, none⟩)) (d := some 23) rfl rfl (by kernel_rfl) (by kernel_rfl) (by kernel_rfl) (by kernel_rfl) (fun _ _ _ h => h) (Or.inl ⟨by rfl, fun w hS => by (obtain ⟨h0, h1, h2⟩ := hS; go_simp)⟩) (HKV.out _ HC3.out) ?_
    (try simp only [Act.put, List.setIfInBounds_toArray, List.set_cons_zero, List.set_cons_succ])
    refine wpAnyL_val (i := 5) (v := .pointer (some ⟨kb, ko + x * 2 + 1, none⟩)) (d := some 24) rfl rfl (by kernel_rfl) (by kernel_rfl) (by kernel_rfl) (by kernel_rfl) (fun _ _ _ h => h) (Or.inl ⟨by rfl, fun w hS => by (obtain ⟨h0, h1, h2⟩ := hS; go_simp)⟩) (HKV.out _ HC3.out) ?_
    (try simp only [Act.put, List.setIfInBounds_toArray, List.set_cons_zero, List.set_cons_succ])
    refine wpAnyL_val (i := 6) (v := .slice fA fn fc) (d := some 25) rfl rfl (by kernel_rfl) (by kernel_rfl) (by kernel_rfl) (by kernel_rfl) (fun _ _ _ h => h) (Or.inl ⟨by rfl, fun w hS => by (obtain ⟨h0, h1, h2⟩ := hS; go_simp)⟩) (HKV.out _ HC3.out) ?_
    (try simp only [Act.put, List.setIfInBounds_toArray, List.set_cons_zero, List.set_cons_succ])
    refine wpAnyL_val (i := 7) (v := .int .i64 (fn : Int)) (d := some 26) rfl rfl (by kernel_rfl) (by kernel_rfl) (by kernel_rfl) (by kernel_rfl) (fun _ _ _ h => h) (Or.inl ⟨by rfl, fun w hS => by (obtain ⟨h0, h1, h2⟩ := hS; go_simp)⟩) (HKV.out _ HC3.out) ?_
    (try simp only [Act.put, List.setIfInBounds_toArray, List.set_cons_zero, List.set_cons_succ])
    refine wpAnyL_one (i := 8) rfl (by kernel_rfl) (by rfl) ?_
    go_simp
    go_at_call 98
    (with_reducible refine (HNX.out s B fn _ HC3.out.st hB (by omega) (by omega)).mono ?_)
    rintro e u4 ⟨y, rfl, hy0, hy1, hst4, hg4⟩
    have HQ4 : Hid (Fq [s] u3 u4) := Lib.hid (Fq.refl.grown hg4 fun g hg => .inl (by injection hg with hg; simp [hg]))
    have HC4 : Hid (ArgI u4 B s hp hs hkb (some ⟨sb, so, none⟩) sn sc xs (some ⟨kb, ko, none⟩) kn kc ks) := Lib.hid (HC3.out.fq hst4 HQ4.out)
    have hR4 : Bk u4 r 341 #[.bool false, .int .i64 0, .int .i64 0, .int .i64 0] := HRu3.out.grown hg4 (fun e => by injection e with e; omega)
    have HQu4 : Hid (Fq [s] w u4) := Lib.hid (HQu3.out.trans HQ4.out (SubF.refl _ _))
    clear hst4 hg4
    refine And.intro (HKV.out _ HC4.out) ?_
    (try simp only [Act.put, List.setIfInBounds_toArray, List.set_cons_zero, List.set_cons_succ])
    refine wpAnyL_val (i := 9) (v := .agg #[.int .i64 (x : Int), .int .i64 y]) (d := some 28) rfl rfl (by kernel_rfl) (by kernel_rfl) (by kernel_rfl) (by kernel_rfl) (fun _ _ _ h => h) (Or.inl ⟨by rfl, fun w hS => by (obtain ⟨h0, h1, h2⟩ := hS; go_simp)⟩) (HKV.out _ HC4.out) ?_
    (try simp only [Act.put, List.setIfInBounds_toArray, List.set_cons_zero, List.set_cons_succ])
    refine wpAnyL_val (i := 10) (v := .agg #[.bool true, .int .i64 0, .int .i64 (x : Int), .int .i64 y]) (d := some 29) rfl rfl (by kernel_rfl) (by kernel_rfl) (by kernel_rfl) (by kernel_rfl) (fun _ _ _ h => h) (Or.inl ⟨by rfl, fun w hS => by (obtain ⟨h0, h1, h2⟩ := hS; go_simp)⟩) (HKV.out _ HC4.out) ?_
    (try simp only [Act.put, List.setIfInBounds_toArray, List.set_cons_zero, List.set_cons_succ])
    have z0 : u4.cell? ⟨r, 0, none⟩ = some (.bool false) := hR4.cell 0
    have z1 : u4.cell? ⟨r, 1, none⟩ = some (.int .i64 0) := hR4.cell 1
    have z2 : u4.cell? ⟨r, 2, none⟩ = some (.int .i64 0) := hR4.cell 2
    have z3 : u4.cell? ⟨r, 3, none⟩ = some (.int .i64 0) := hR4.cell 3
    have y0 := hR4.frozen 0
    have y1 := hR4.frozen 1
    have y2 := hR4.frozen 2
    have y3 := hR4.frozen 3
    have HK : Hid (∀ V0 V1 V2 V3, StrSt ((((u4.setCell ⟨r, 0, none⟩ V0).setCell ⟨r, 1, none⟩ V1).setCell ⟨r, 2, none⟩ V2).setCell ⟨r, 3, none⟩ V3) B s ∧ Fq [s] w ((((u4.setCell ⟨r, 0, none⟩ V0).setCell ⟨r, 1, none⟩ V1).setCell ⟨r, 2, none⟩ V2).setCell ⟨r, 3, none⟩ V3)) := Lib.hid fun V0 V1 V2 V3 => arg_end HC4.out.st hB hR4 (Fq.refl) HQu4.out HRW.out HBW.out V0 V1 V2 V3
    clear hR4
    refine wpAnyL_late (i := 11) rfl (by kernel_rfl) (by rfl) (by kernel_rfl) ?_
    go_simp
    (try simp only [Act.put, List.setIfInBounds_toArray, List.set_cons_zero, List.set_cons_succ])
    refine wpAnyL_done (by kernel_rfl) ?_ _
    go_wp2_with fail
    (try simp only [Exit.inBlock, Exit.then])
    refine bodyPost_ret (v := .agg #[.bool true, .int .i64 0, .int .i64 x, .int .i64 y]) ?_ rfl ⟨true, _, _, _, rfl, (HK.out _ _ _ _).1, (HK.out _ _ _ _).2⟩
    rw [results_c1 rfl]
    go_simp
end Go.Proofs.Ytnidcmhfbkdioaa
