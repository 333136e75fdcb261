/-
  The contracts of game.Unflat where a world alone was written, of delta.Make and delta.Apply at states that are worlds alone. Conditions: worlds that can be read, of bounded sizes; numbers that fit.
-/
import Derived.Test.YtnidcmhfbkdioaaVd
namespace Go.Proofs.Ytnidcmhfbkdioaa
open Go.RowKit
set_option maxRecDepth 100000

/-! ### Ve -/
theorem flatN_eq (T : Int) (p : Wv Kp2) : flatN T p = T :: (worldN p ++ [0, 0, 0]) := by
  simp [flatN, flatB, flatA, worldN, gensN, itsN]
theorem results_c2 {fn : Func} {p u : Tmp} {ty : TypeId} (h : fn.results = #[.cell p ty, .tmp u]) (tmps : Array Value) (P : Program) (w : World) :
    (results fn tmps).run P w = ((asAddr (tmps.getD p undef)).run P w).andThen fun a w₁ => ((loadVar ty a).run P w₁).andThen fun v w₂ => .ok (.tuple #[v, tmps.getD u undef]) w₂ := by
  simp only [results, h]
  simp [Sem.run_bind, Result.andThen]

set_option maxHeartbeats 4000000 in
theorem unflat_any (A : Option Addr) (n c B : Nat) (T : Int) (p : Wv Kp2) (w : World) (hr : Rd w B 1 A n ((flatN T p).map (Value.int .i64))) (hn : n = (flatN T p).length) (hnc : n ≤ c) (hc : c ≤ 9223372036854775807) (hB : B ≤ w.heap.size) (hS : Szs p) (hwf : WfP p) :
    Calls Try.prog 127 #[.slice A n c] w fun e w' => ∃ y : Wd, e = .returned (.tuple #[.agg #[.int .i64 T, .slice y.kA y.kn y.kc, .slice y.gA y.gn y.gc, .slice y.iA y.im y.ic, .slice none 0 0, .slice none 0 0, .slice none 0 0], .int .i64 0]) ∧ Hid (WdY w' 0 y ∧ y.p = p) ∧ Below w.heap.size w w' := by
  obtain ⟨W0, hW0⟩ : ∃ W0, W0 = (w.alloc (.cells #[.int .i64 0, .slice none 0 0, .slice none 0 0, .slice none 0 0, .slice none 0 0, .slice none 0 0, .slice none 0 0] 80)).alloc (.cells #[.slice A n c, .bool false] 299) := ⟨_, rfl⟩
  have hb0 : Below w.heap.size w W0 := by rw [hW0]; exact Below.al (Below.al (Below.refl _ _) _) _
  have hs0 : W0.heap.size = w.heap.size + 2 := by rw [hW0]; simp
  have HSZ := Lib.hid hs0
  have HX2 : Hid (Bk W0 w.heap.size 80 #[.int .i64 0, .slice none 0 0, .slice none 0 0, .slice none 0 0, .slice none 0 0, .slice none 0 0, .slice none 0 0]) := Lib.hid (by rw [hW0]; exact (Bk.new _ _ _).alloc _)
  have hR0 : RI W0 B (w.heap.size + 1) (T :: (worldN p ++ [0, 0, 0])) := by
    rw [← flatN_eq]
    exact ⟨A, n, c, by rw [hW0]; exact Bk.two _ _ _ _, hn, hnc, hc, hr.below (hb0.mono hB)⟩
  have HN1 := Lib.hid (rnext_any (w.heap.size + 1) B T _ W0 hR0 (by omega))
  have HB0 := Lib.hid hb0
  have HS := Lib.hid hS
  have HWF := Lib.hid hwf
  clear hr hn hb0 hs0 hR0 hS hwf
  go_enter Try.func127, Try.ntmps127
  go_upto_region 2 with fail
  rw [← hW0]
  clear hW0
  go_wp2_with fail
  refine HN1.out.mono ?_
  clear HN1
  rintro e w1 ⟨rfl, hr1, hg1⟩
  obtain ⟨g, hg⟩ : ∃ g, g = w.heap.size + 1 := ⟨_, rfl⟩
  rw [← hg] at hr1 hg1 ⊢
  have HGE : Hid (w.heap.size ≤ g ∧ B ≤ g ∧ g ≠ w.heap.size) := Lib.hid ⟨by omega, by omega, by omega⟩
  clear hg
  have HQ1 : Hid (Fq [g] w w1) := Lib.hid ((Fq.of_below HB0.out).gb hg1)
  have hx2 : Bk w1 w.heap.size 80 #[.int .i64 0, .slice none 0 0, .slice none 0 0, .slice none 0 0, .slice none 0 0, .slice none 0 0, .slice none 0 0] := HX2.out.grown hg1 (fun e => by injection e with e; exact HGE.out.2.2 e.symm)
  obtain ⟨w2, hw2⟩ : ∃ w2, w2 = w1.alloc (.cells #[.int .i64 T, .slice none 0 0, .slice none 0 0, .slice none 0 0, .slice none 0 0, .slice none 0 0, .slice none 0 0] 80) := ⟨_, rfl⟩
  obtain ⟨h5, hh5⟩ : ∃ h5, h5 = w1.heap.size := ⟨_, rfl⟩
  have hb2 : Below w1.heap.size w1 w2 := by rw [hw2]; exact (Below.refl _ _).alloc (Nat.le_refl _) _
  have HX5 : Hid (Bk w2 h5 80 #[.int .i64 T, .slice none 0 0, .slice none 0 0, .slice none 0 0, .slice none 0 0, .slice none 0 0, .slice none 0 0]) := Lib.hid (by rw [hw2, hh5]; exact Bk.new _ _ _)
  have HX2' : Hid (Bk w2 w.heap.size 80 #[.int .i64 0, .slice none 0 0, .slice none 0 0, .slice none 0 0, .slice none 0 0, .slice none 0 0, .slice none 0 0]) := Lib.hid (hx2.below hb2 hx2.lt)
  have HNE : Hid (h5 ≠ w.heap.size ∧ w.heap.size ≤ h5 ∧ h5 ≠ g) := Lib.hid (by have h1 := hx2.lt; have h2 := hr1.lt; exact ⟨by omega, by omega, by omega⟩)
  have HQ2 : Hid (Fq [g] w w2) := Lib.hid (HQ1.out.trans (Fq.of_below hb2) (SubF.refl _ _))
  have hr2 := hr1.below hb2 (by have := hr1.lt; have := HGE.out.2.1; omega)
  have HR2 := Lib.hid hr2
  have HWD := Lib.hid (rworld_any g B p [0, 0, 0] w2 hr2 HGE.out.2.1 HS.out HWF.out)
  clear hr2 hb2 hx2 hr1 hg1 HX2 HQ1
  go_wp2_with fail
  rw [← hw2, ← hh5]
  clear hw2 hh5
  refine HWD.out.mono ?_
  clear HWD
  rintro e w3 ⟨y, rfl, HY, hr3, hq3⟩
  obtain ⟨kA, kn, kc, ks, gA, gn, gc, gens, iA, im, ic, its⟩ := y
  have hx5 : Bk w3 h5 80 #[.int .i64 T, .slice none 0 0, .slice none 0 0, .slice none 0 0, .slice none 0 0, .slice none 0 0, .slice none 0 0] := (hq3.low h5 HX5.out.lt (by simp; exact HNE.out.2.2)).trans HX5.out
  have hx2 : Bk w3 w.heap.size 80 #[.int .i64 0, .slice none 0 0, .slice none 0 0, .slice none 0 0, .slice none 0 0, .slice none 0 0, .slice none 0 0] := (hq3.low _ HX2'.out.lt (by simp; exact fun e => HGE.out.2.2 e.symm)).trans HX2'.out
  have c1 : w3.cell? ⟨h5, 1, none⟩ = some (.slice none 0 0) := hx5.cell 1
  have c2 : w3.cell? ⟨h5, 2, none⟩ = some (.slice none 0 0) := hx5.cell 2
  have c3 : w3.cell? ⟨h5, 3, none⟩ = some (.slice none 0 0) := hx5.cell 3
  have f1 := hx5.frozen 1
  have f2 := hx5.frozen 2
  have f3 := hx5.frozen 3
  have HQ3 : Hid (Fq [g] w w3) := Lib.hid (HQ2.out.trans hq3 (SubF.refl _ _))
  have HR3 := Lib.hid hr3
  have HX5' := Lib.hid hx5
  have HX2'' := Lib.hid hx2
  clear hx5 hx2 hr3 hq3 HX5 HX2' HQ2 HR2
  unfold Wd.v
  dsimp only
  go_upto_region 4 with fail
  obtain ⟨w4, hw4⟩ : ∃ w4, w4 = ((w3.setCell ⟨h5, 1, none⟩ (.slice kA kn kc)).setCell ⟨h5, 2, none⟩ (.slice gA gn gc)).setCell ⟨h5, 3, none⟩ (.slice iA im ic) := ⟨_, rfl⟩
  have hk1 := HX5'.out.set_ 1 (Value.slice kA kn kc)
  have hk2 := hk1.set_ 2 (Value.slice gA gn gc)
  have HX54 : Hid (Bk w4 h5 80 #[.int .i64 T, .slice kA kn kc, .slice gA gn gc, .slice iA im ic, .slice none 0 0, .slice none 0 0, .slice none 0 0]) := Lib.hid (by rw [hw4]; exact hk2.set_ 3 _)
  have hKB : Kx B [80] w3 w4 := by
    rw [hw4]
    exact (((Kx.refl (B := B)).set HX5'.out (by have := HNE.out.2.1; omega) (by simp) 1 _).set hk1 (by have := HNE.out.2.1; omega) (by simp) 2 _).set hk2 (by have := HNE.out.2.1; omega) (by simp) 3 _
  have HX24 : Hid (Bk w4 w.heap.size 80 #[.int .i64 0, .slice none 0 0, .slice none 0 0, .slice none 0 0, .slice none 0 0, .slice none 0 0, .slice none 0 0]) := Lib.hid (by
    rw [hw4]
    exact ((HX2''.out.far (p := ⟨h5, 1, none⟩) (fun e => HNE.out.1 e.symm) _).far (p := ⟨h5, 2, none⟩) (fun e => HNE.out.1 e.symm) _).far (p := ⟨h5, 3, none⟩) (fun e => HNE.out.1 e.symm) _)
  have HR4 : Hid (RI w4 B g [0, 0, 0]) := Lib.hid (HR3.out.kx hKB (Nat.le_refl _) (HR3.out.lo HGE.out.2.1) (by decide))
  have HY4 : Hid (WdY w4 0 ⟨kA, kn, kc, ks, gA, gn, gc, gens, iA, im, ic, its⟩ ∧ (⟨kA, kn, kc, ks, gA, gn, gc, gens, iA, im, ic, its⟩ : Wd).p = p) := Lib.hid ⟨HY.out.1.keep (hKB.mono (Nat.zero_le _) (fun _ h => h)) (by decide) (by decide) (by decide) (by decide) (by decide), HY.out.2⟩
  have HQ4 : Hid (Fq [g] w w4) := Lib.hid (by
    rw [hw4]
    exact ((HQ3.out.set (.inr HNE.out.2.1) 1 _).set (.inr HNE.out.2.1) 2 _).set (.inr HNE.out.2.1) 3 _)
  rw [← hw4]
  clear hw4 hk1 hk2 hKB HX5' HX2'' HR3 HY HQ3 c1 c2 c3 f1 f2 f3
  have HM : Hid (Calls Try.prog 192 #[.pointer (some ⟨g, 0, none⟩)] w4 fun e w' => e = .returned (.int .i64 0) ∧ RI w' B g [0, 0] ∧ w4.grownBy w' (some g)) := Lib.hid (by
    have h := rmany_any g B 0 [0, 0] w4 HR4.out HGE.out.2.1 (Nat.zero_le _)
    simpa using h)
  go_wp2_with fail
  refine HM.out.mono ?_
  clear HM
  rintro e w5 ⟨rfl, hr, hg⟩
  have hq : Fq [g] w4 w5 := Fq.refl.gb hg
  have hkf : Kx 0 [299] w4 w5 := Kx.fqR hq HR4.out (Nat.zero_le _)
  have HX55 : Hid (Bk w5 h5 80 #[.int .i64 T, .slice kA kn kc, .slice gA gn gc, .slice iA im ic, .slice none 0 0, .slice none 0 0, .slice none 0 0]) := Lib.hid (hkf.bk HX54.out (by decide))
  have HX25 : Hid (Bk w5 w.heap.size 80 #[.int .i64 0, .slice none 0 0, .slice none 0 0, .slice none 0 0, .slice none 0 0, .slice none 0 0, .slice none 0 0]) := Lib.hid (hkf.bk HX24.out (by decide))
  have HY5 : Hid (WdY w5 0 ⟨kA, kn, kc, ks, gA, gn, gc, gens, iA, im, ic, its⟩ ∧ (⟨kA, kn, kc, ks, gA, gn, gc, gens, iA, im, ic, its⟩ : Wd).p = p) := Lib.hid ⟨HY4.out.1.keep hkf (by decide) (by decide) (by decide) (by decide) (by decide), HY4.out.2⟩
  have HR5 := Lib.hid hr
  have HQ5 : Hid (Fq [g] w w5) := Lib.hid (HQ4.out.trans hq (SubF.refl _ _))
  clear hr hg hq hkf HX54 HX24 HY4 HR4 HQ4
  go_wp2_with fail
  go_loopw [20] (fun iv wr => iv = .int .i64 0 ∧ w5 = wr) (fun _ _ => 0)
  case atStart => exact ⟨rfl, rfl⟩
  obtain ⟨rfl, rfl⟩ := hrel
  have HM : Hid (Calls Try.prog 192 #[.pointer (some ⟨g, 0, none⟩)] w5 fun e w' => e = .returned (.int .i64 0) ∧ RI w' B g [0] ∧ w5.grownBy w' (some g)) := Lib.hid (by
    have h := rmany_any g B 0 [0] w5 HR5.out HGE.out.2.1 (Nat.zero_le _)
    simpa using h)
  go_wp2_with fail
  refine HM.out.mono ?_
  clear HM
  rintro e w6 ⟨rfl, hr, hg⟩
  have hq : Fq [g] w5 w6 := Fq.refl.gb hg
  have hkf : Kx 0 [299] w5 w6 := Kx.fqR hq HR5.out (Nat.zero_le _)
  have HX56 : Hid (Bk w6 h5 80 #[.int .i64 T, .slice kA kn kc, .slice gA gn gc, .slice iA im ic, .slice none 0 0, .slice none 0 0, .slice none 0 0]) := Lib.hid (hkf.bk HX55.out (by decide))
  have HX26 : Hid (Bk w6 w.heap.size 80 #[.int .i64 0, .slice none 0 0, .slice none 0 0, .slice none 0 0, .slice none 0 0, .slice none 0 0, .slice none 0 0]) := Lib.hid (hkf.bk HX25.out (by decide))
  have HY6 : Hid (WdY w6 0 ⟨kA, kn, kc, ks, gA, gn, gc, gens, iA, im, ic, its⟩ ∧ (⟨kA, kn, kc, ks, gA, gn, gc, gens, iA, im, ic, its⟩ : Wd).p = p) := Lib.hid ⟨HY5.out.1.keep hkf (by decide) (by decide) (by decide) (by decide) (by decide), HY5.out.2⟩
  have HR6 := Lib.hid hr
  have HQ6 : Hid (Fq [g] w w6) := Lib.hid (HQ5.out.trans hq (SubF.refl _ _))
  clear hr hg hq hkf HX55 HX25 HY5 HR5 HQ5
  go_wp2_with fail
  go_loopw [59] (fun iv wr => iv = .int .i64 0 ∧ w6 = wr) (fun _ _ => 0)
  case atStart => exact ⟨rfl, rfl⟩
  obtain ⟨rfl, rfl⟩ := hrel
  have HM : Hid (Calls Try.prog 192 #[.pointer (some ⟨g, 0, none⟩)] w6 fun e w' => e = .returned (.int .i64 0) ∧ RI w' B g [] ∧ w6.grownBy w' (some g)) := Lib.hid (by
    have h := rmany_any g B 0 [] w6 HR6.out HGE.out.2.1 (Nat.zero_le _)
    simpa using h)
  go_wp2_with fail
  refine HM.out.mono ?_
  clear HM
  rintro e w7 ⟨rfl, hr, hg⟩
  have hq : Fq [g] w6 w7 := Fq.refl.gb hg
  have hkf : Kx 0 [299] w6 w7 := Kx.fqR hq HR6.out (Nat.zero_le _)
  have HX57 : Hid (Bk w7 h5 80 #[.int .i64 T, .slice kA kn kc, .slice gA gn gc, .slice iA im ic, .slice none 0 0, .slice none 0 0, .slice none 0 0]) := Lib.hid (hkf.bk HX56.out (by decide))
  have HX27 : Hid (Bk w7 w.heap.size 80 #[.int .i64 0, .slice none 0 0, .slice none 0 0, .slice none 0 0, .slice none 0 0, .slice none 0 0, .slice none 0 0]) := Lib.hid (hkf.bk HX26.out (by decide))
  have HY7 : Hid (WdY w7 0 ⟨kA, kn, kc, ks, gA, gn, gc, gens, iA, im, ic, its⟩ ∧ (⟨kA, kn, kc, ks, gA, gn, gc, gens, iA, im, ic, its⟩ : Wd).p = p) := Lib.hid ⟨HY6.out.1.keep hkf (by decide) (by decide) (by decide) (by decide) (by decide), HY6.out.2⟩
  have HR7 := Lib.hid hr
  have HQ7 : Hid (Fq [g] w w7) := Lib.hid (HQ6.out.trans hq (SubF.refl _ _))
  clear hr hg hq hkf HX56 HX26 HY6 HR6 HQ6
  go_wp2_with fail
  go_loopw [81] (fun iv wr => iv = .int .i64 0 ∧ w7 = wr) (fun _ _ => 0)
  case atStart => exact ⟨rfl, rfl⟩
  obtain ⟨rfl, rfl⟩ := hrel
  obtain ⟨A7, n7, c7, hb7, hn7, _, _, _⟩ := HR7.out
  obtain rfl : n7 = 0 := by simpa using hn7
  have r0 : w7.cell? ⟨g, 0, none⟩ = some (.slice A7 0 c7) := hb7.cell 0
  have r1 : w7.cell? ⟨g, 1, none⟩ = some (.bool false) := hb7.cell 1
  have k0 : w7.cell? ⟨h5, 0, none⟩ = some (.int .i64 T) := HX57.out.cell 0
  have k1 : w7.cell? ⟨h5, 1, none⟩ = some (.slice kA kn kc) := HX57.out.cell 1
  have k2 : w7.cell? ⟨h5, 2, none⟩ = some (.slice gA gn gc) := HX57.out.cell 2
  have k3 : w7.cell? ⟨h5, 3, none⟩ = some (.slice iA im ic) := HX57.out.cell 3
  have k4 : w7.cell? ⟨h5, 4, none⟩ = some (.slice none 0 0) := HX57.out.cell 4
  have k5 : w7.cell? ⟨h5, 5, none⟩ = some (.slice none 0 0) := HX57.out.cell 5
  have k6 : w7.cell? ⟨h5, 6, none⟩ = some (.slice none 0 0) := HX57.out.cell 6
  have m0 : w7.cell? ⟨w.heap.size, 0, none⟩ = some (.int .i64 0) := HX27.out.cell 0
  have m1 : w7.cell? ⟨w.heap.size, 1, none⟩ = some (.slice none 0 0) := HX27.out.cell 1
  have m2 : w7.cell? ⟨w.heap.size, 2, none⟩ = some (.slice none 0 0) := HX27.out.cell 2
  have m3 : w7.cell? ⟨w.heap.size, 3, none⟩ = some (.slice none 0 0) := HX27.out.cell 3
  have m4 : w7.cell? ⟨w.heap.size, 4, none⟩ = some (.slice none 0 0) := HX27.out.cell 4
  have m5 : w7.cell? ⟨w.heap.size, 5, none⟩ = some (.slice none 0 0) := HX27.out.cell 5
  have m6 : w7.cell? ⟨w.heap.size, 6, none⟩ = some (.slice none 0 0) := HX27.out.cell 6
  have f0 := HX27.out.frozen 0
  have f1 := HX27.out.frozen 1
  have f2 := HX27.out.frozen 2
  have f3 := HX27.out.frozen 3
  have f4 := HX27.out.frozen 4
  have f5 := HX27.out.frozen 5
  have f6 := HX27.out.frozen 6
  clear hb7 hn7
  go_wp2_with fail
  (try simp only [Exit.inBlock, Exit.then])
  have z0 := HX27.out.set_ 0 (Value.int .i64 T)
  have z1 := z0.set_ 1 (Value.slice kA kn kc)
  have z2 := z1.set_ 2 (Value.slice gA gn gc)
  have z3 := z2.set_ 3 (Value.slice iA im ic)
  have z4 := z3.set_ 4 (Value.slice none 0 0)
  have z5 := z4.set_ 5 (Value.slice none 0 0)
  have hK0 := ((((((((Kx.refl (B := 0) (F := [80])).set HX27.out (Nat.zero_le _) (by simp) 0 (Value.int .i64 T)).set z0 (Nat.zero_le _) (by simp) 1 (Value.slice kA kn kc)).set z1 (Nat.zero_le _) (by simp) 2 (Value.slice gA gn gc)).set z2 (Nat.zero_le _) (by simp) 3 (Value.slice iA im ic)).set z3 (Nat.zero_le _) (by simp) 4 (Value.slice none 0 0)).set z4 (Nat.zero_le _) (by simp) 5 (Value.slice none 0 0)).set z5 (Nat.zero_le _) (by simp) 6 (Value.slice none 0 0))
  refine bodyPost_ret (v := .tuple #[.agg #[.int .i64 T, .slice kA kn kc, .slice gA gn gc, .slice iA im ic, .slice none 0 0, .slice none 0 0, .slice none 0 0], .int .i64 0]) ?_ rfl ⟨⟨kA, kn, kc, ks, gA, gn, gc, gens, iA, im, ic, its⟩, rfl, Lib.hid ⟨HY7.out.1.keep hK0 (by decide) (by decide) (by decide) (by decide) (by decide), HY7.out.2⟩, Fq.below (((((((HQ7.out.set (.inr (Nat.le_refl _)) 0 _).set (.inr (Nat.le_refl _)) 1 _).set (.inr (Nat.le_refl _)) 2 _).set (.inr (Nat.le_refl _)) 3 _).set (.inr (Nat.le_refl _)) 4 _).set (.inr (Nat.le_refl _)) 5 _).set (.inr (Nat.le_refl _)) 6 _) (fun k hk => by have e := List.mem_singleton.1 hk; have := HGE.out.1; omega) (Nat.le_refl _)⟩
  rw [results_c2 rfl]
  go_simp

/-! ### Vf -/
/-- A world that can be written as numbers. -/
structure GoodW (p : Wv Kp2) : Prop where
  sz : Szs p
  wf : WfP p
  rng : i64r (flatN 0 p)
abbrev FW (p : Wv Kp2) : List Int := flatN 0 p

set_option maxHeartbeats 4000000 in
theorem make_any (x y : Wd) (B : Nat) (w : World) (hx : WdOk w B x) (hy : WdOk w B y) (hB : B ≤ w.heap.size) (gx : GoodW x.p) (gy : GoodW y.p) (hok : encOk (FW x.p) (FW y.p)) :
    Calls Try.prog 41 #[.agg #[.int .i64 0, .slice x.kA x.kn x.kc, .slice x.gA x.gn x.gc, .slice x.iA x.im x.ic, .slice none 0 0, .slice none 0 0, .slice none 0 0], .agg #[.int .i64 0, .slice y.kA y.kn y.kc, .slice y.gA y.gn y.gc, .slice y.iA y.im y.ic, .slice none 0 0, .slice none 0 0, .slice none 0 0]] w (RetS2 w 5 1 (packB (encB (FW x.p) (FW y.p))).length (bytesV (packB (encB (FW x.p) (FW y.p)))) 0) := by
  obtain ⟨p1, hp1⟩ : ∃ p, p = x.p := ⟨_, rfl⟩
  obtain ⟨p2, hp2⟩ : ∃ p, p = y.p := ⟨_, rfl⟩
  obtain ⟨kA1, kn1, kc1, ks1, gA1, gn1, gc1, gens1, iA1, im1, ic1, its1⟩ := x
  obtain ⟨kA2, kn2, kc2, ks2, gA2, gn2, gc2, gens2, iA2, im2, ic2, its2⟩ := y
  dsimp only
  obtain ⟨W0, hW0⟩ : ∃ W0, W0 = (w.alloc (.cells #[.int .i64 0, .slice kA1 kn1 kc1, .slice gA1 gn1 gc1, .slice iA1 im1 ic1, .slice none 0 0, .slice none 0 0, .slice none 0 0] 80)).alloc (.cells #[.int .i64 0, .slice kA2 kn2 kc2, .slice gA2 gn2 gc2, .slice iA2 im2 ic2, .slice none 0 0, .slice none 0 0, .slice none 0 0] 80) := ⟨_, rfl⟩
  have hb0 : Below w.heap.size w W0 := by rw [hW0]; exact Below.al (Below.al (Below.refl _ _) _) _
  have hs0 : W0.heap.size = w.heap.size + 2 := by rw [hW0]; simp
  have HX1 : Hid (Bk W0 w.heap.size 80 #[.int .i64 0, .slice kA1 kn1 kc1, .slice gA1 gn1 gc1, .slice iA1 im1 ic1, .slice none 0 0, .slice none 0 0, .slice none 0 0]) := Lib.hid (by rw [hW0]; exact (Bk.new _ _ _).alloc _)
  have HX2 : Hid (Bk W0 (w.heap.size + 1) 80 #[.int .i64 0, .slice kA2 kn2 kc2, .slice gA2 gn2 gc2, .slice iA2 im2 ic2, .slice none 0 0, .slice none 0 0, .slice none 0 0]) := Lib.hid (by rw [hW0]; exact Bk.two _ _ _ _)
  have HF1 := Lib.hid (fun (wz : World) (hb : Below W0.heap.size W0 wz) => flat_any ⟨kA1, kn1, kc1, ks1, gA1, gn1, gc1, gens1, iA1, im1, ic1, its1⟩ 0 B wz (hx.below ((hb0.trans (hb.mono hb0.size)).mono hB)) (by have := hb.size; omega) gx.sz)
  have HF2 := Lib.hid (fun (wz : World) (hb : Below W0.heap.size W0 wz) => flat_any ⟨kA2, kn2, kc2, ks2, gA2, gn2, gc2, gens2, iA2, im2, ic2, its2⟩ 0 B wz (hy.below ((hb0.trans (hb.mono hb0.size)).mono hB)) (by have := hb.size; omega) gy.sz)
  rw [← hp1] at gx hok ⊢
  rw [← hp2] at gy hok ⊢
  have HF1' : Hid (∀ (wz : World), Below W0.heap.size W0 wz → Calls Try.prog 119 #[.agg #[.int .i64 0, .slice kA1 kn1 kc1, .slice gA1 gn1 gc1, .slice iA1 im1 ic1, .slice none 0 0, .slice none 0 0, .slice none 0 0]] wz (RetS wz 3 1 (flatN 0 p1).length ((flatN 0 p1).map (Value.int .i64)))) := Lib.hid (by rw [hp1]; exact HF1.out)
  have HF2' : Hid (∀ (wz : World), Below W0.heap.size W0 wz → Calls Try.prog 119 #[.agg #[.int .i64 0, .slice kA2 kn2 kc2, .slice gA2 gn2 gc2, .slice iA2 im2 ic2, .slice none 0 0, .slice none 0 0, .slice none 0 0]] wz (RetS wz 3 1 (flatN 0 p2).length ((flatN 0 p2).map (Value.int .i64)))) := Lib.hid (by rw [hp2]; exact HF2.out)
  have HB0 := Lib.hid hb0
  have HSZ := Lib.hid hs0
  have HG1 := Lib.hid gx
  have HG2 := Lib.hid gy
  have HOK := Lib.hid hok
  clear hx hy hb0 hs0 gx gy hok hp1 hp2 HF1 HF2
  go_enter Try.func41, Try.ntmps41
  go_upto_region 1 with fail
  rw [← hW0]
  clear hW0
  have a0 : W0.cell? ⟨w.heap.size, 0, none⟩ = some (.int .i64 0) := HX1.out.cell 0
  have a1 : W0.cell? ⟨w.heap.size, 1, none⟩ = some (.slice kA1 kn1 kc1) := HX1.out.cell 1
  have a2 : W0.cell? ⟨w.heap.size, 2, none⟩ = some (.slice gA1 gn1 gc1) := HX1.out.cell 2
  have a3 : W0.cell? ⟨w.heap.size, 3, none⟩ = some (.slice iA1 im1 ic1) := HX1.out.cell 3
  have a4 : W0.cell? ⟨w.heap.size, 4, none⟩ = some (.slice none 0 0) := HX1.out.cell 4
  have a5 : W0.cell? ⟨w.heap.size, 5, none⟩ = some (.slice none 0 0) := HX1.out.cell 5
  have a6 : W0.cell? ⟨w.heap.size, 6, none⟩ = some (.slice none 0 0) := HX1.out.cell 6
  have b0 : W0.cell? ⟨(w.heap.size + 1), 0, none⟩ = some (.int .i64 0) := HX2.out.cell 0
  have b1 : W0.cell? ⟨(w.heap.size + 1), 1, none⟩ = some (.slice kA2 kn2 kc2) := HX2.out.cell 1
  have b2 : W0.cell? ⟨(w.heap.size + 1), 2, none⟩ = some (.slice gA2 gn2 gc2) := HX2.out.cell 2
  have b3 : W0.cell? ⟨(w.heap.size + 1), 3, none⟩ = some (.slice iA2 im2 ic2) := HX2.out.cell 3
  have b4 : W0.cell? ⟨(w.heap.size + 1), 4, none⟩ = some (.slice none 0 0) := HX2.out.cell 4
  have b5 : W0.cell? ⟨(w.heap.size + 1), 5, none⟩ = some (.slice none 0 0) := HX2.out.cell 5
  have b6 : W0.cell? ⟨(w.heap.size + 1), 6, none⟩ = some (.slice none 0 0) := HX2.out.cell 6
  go_region_law
    (first
      | (go_simp
         go_at_call 119
         (with_reducible refine (HF1'.out _ ?hb).mono ?_)
         case hb => (repeat' first | exact Below.refl _ _ | refine Below.drew ?_)
         rintro e w1 ⟨A1, c1, rfl, hown1, hb1⟩
         have hB1 : Below W0.heap.size W0 w1 := ((Below.refl W0.heap.size W0).drew).trans hb1
         have hx2 := HX2.out.below hB1 HX2.out.lt
         have d0 : w1.cell? ⟨(w.heap.size + 1), 0, none⟩ = some (.int .i64 0) := hx2.cell 0
         have d1 : w1.cell? ⟨(w.heap.size + 1), 1, none⟩ = some (.slice kA2 kn2 kc2) := hx2.cell 1
         have d2 : w1.cell? ⟨(w.heap.size + 1), 2, none⟩ = some (.slice gA2 gn2 gc2) := hx2.cell 2
         have d3 : w1.cell? ⟨(w.heap.size + 1), 3, none⟩ = some (.slice iA2 im2 ic2) := hx2.cell 3
         have d4 : w1.cell? ⟨(w.heap.size + 1), 4, none⟩ = some (.slice none 0 0) := hx2.cell 4
         have d5 : w1.cell? ⟨(w.heap.size + 1), 5, none⟩ = some (.slice none 0 0) := hx2.cell 5
         have d6 : w1.cell? ⟨(w.heap.size + 1), 6, none⟩ = some (.slice none 0 0) := hx2.cell 6
         )
      | (go_simp
         go_at_call 119
         (with_reducible refine (HF2'.out _ ?hb).mono ?_)
         case hb => exact hB1
         rintro e w2 ⟨A2, c2, rfl, hown2, hb2⟩)
      | (go_simp
         go_at_call 118
         (with_reducible refine (ints_any A1 A2 _ c1 _ c2 w2.heap.size (flatN 0 p1) (flatN 0 p2) w2 ?r1 ?r2 rfl rfl ?nc HG1.out.rng HG2.out.rng (Nat.le_refl _)).mono ?_)
         case r1 => exact (Rd.of_own (own_keepU hown1 hb2))
         case r2 => exact (Rd.of_own hown2)
         case nc => exact ⟨by have := own_cap2 hown1; omega, by have := own_cap2 hown2; omega⟩
         rintro e w3 (⟨_, A3, c3, rfl, hown3, hb3⟩ | ⟨hno, _⟩)
         rotate_left
         · exact absurd HOK.out hno))
  all_goals
    have hz1 : w.heap.size ≤ W0.heap.size := HB0.out.size
    have hz2 : W0.heap.size ≤ w1.heap.size := hB1.size
    have hz3 : w1.heap.size ≤ w2.heap.size := hb2.size
    go_wp2_with fail
    go_ret2
    exact ⟨A3, c3, rfl, own_mono hown3 (by omega), ((HB0.out.trans (hB1.mono hz1)).trans (hb2.mono (by omega))).trans (hb3.mono (by omega))⟩

theorem packB_lt256 (l : List Bool) : ∀ b ∈ packB l, b < 256 := (packB_lt l).1
set_option maxHeartbeats 4000000 in
theorem apply_any (x : Wd) (q : Wv Kp2) (D : Option Addr) (dn dc B : Nat) (w : World) (hx : WdOk w B x) (hB : B ≤ w.heap.size) (gx : GoodW x.p) (gq : GoodW q) (hok : encOk (FW x.p) (FW q)) (hd : Rd w B 1 D dn (bytesV (packB (encB (FW x.p) (FW q))))) (hdn : dn = (packB (encB (FW x.p) (FW q))).length) :
    Calls Try.prog 45 #[.agg #[.int .i64 0, .slice x.kA x.kn x.kc, .slice x.gA x.gn x.gc, .slice x.iA x.im x.ic, .slice none 0 0, .slice none 0 0, .slice none 0 0], .slice D dn dc] w fun e w' => ∃ y : Wd, e = .returned (.tuple #[.agg #[.int .i64 0, .slice y.kA y.kn y.kc, .slice y.gA y.gn y.gc, .slice y.iA y.im y.ic, .slice none 0 0, .slice none 0 0, .slice none 0 0], .int .i64 0]) ∧ Hid (WdY w' 0 y ∧ y.p = q) ∧ Below w.heap.size w w' := by
  obtain ⟨p1, hp1⟩ : ∃ p, p = x.p := ⟨_, rfl⟩
  obtain ⟨kA1, kn1, kc1, ks1, gA1, gn1, gc1, gens1, iA1, im1, ic1, its1⟩ := x
  dsimp only
  obtain ⟨W0, hW0⟩ : ∃ W0, W0 = (w.alloc (.cells #[.int .i64 0, .slice kA1 kn1 kc1, .slice gA1 gn1 gc1, .slice iA1 im1 ic1, .slice none 0 0, .slice none 0 0, .slice none 0 0] 80)).alloc (.cells #[.int .i64 0, .slice none 0 0, .slice none 0 0, .slice none 0 0, .slice none 0 0, .slice none 0 0, .slice none 0 0] 80) := ⟨_, rfl⟩
  have hb0 : Below w.heap.size w W0 := by rw [hW0]; exact Below.al (Below.al (Below.refl _ _) _) _
  have hs0 : W0.heap.size = w.heap.size + 2 := by rw [hW0]; simp
  have HX1 : Hid (Bk W0 w.heap.size 80 #[.int .i64 0, .slice kA1 kn1 kc1, .slice gA1 gn1 gc1, .slice iA1 im1 ic1, .slice none 0 0, .slice none 0 0, .slice none 0 0]) := Lib.hid (by rw [hW0]; exact (Bk.new _ _ _).alloc _)
  have HX2 : Hid (Bk W0 (w.heap.size + 1) 80 #[.int .i64 0, .slice none 0 0, .slice none 0 0, .slice none 0 0, .slice none 0 0, .slice none 0 0, .slice none 0 0]) := Lib.hid (by rw [hW0]; exact Bk.two _ _ _ _)
  have HF1 := Lib.hid (flat_any ⟨kA1, kn1, kc1, ks1, gA1, gn1, gc1, gens1, iA1, im1, ic1, its1⟩ 0 B W0 (hx.below (hb0.mono hB)) (by omega) gx.sz)
  have HD : Hid (Rd W0 B 1 D dn (bytesV (packB (encB (FW p1) (FW q))))) := Lib.hid (by rw [hp1]; exact hd.below (hb0.mono hB))
  rw [← hp1] at gx hok hdn
  have HF1' : Hid (Calls Try.prog 119 #[.agg #[.int .i64 0, .slice kA1 kn1 kc1, .slice gA1 gn1 gc1, .slice iA1 im1 ic1, .slice none 0 0, .slice none 0 0, .slice none 0 0]] W0 (RetS W0 3 1 (flatN 0 p1).length ((flatN 0 p1).map (Value.int .i64)))) := Lib.hid (by rw [hp1]; exact HF1.out)
  have hd9 : dn ≤ 140737488355328 := by
    have h1 := packB_length (encB (FW p1) (FW q))
    have h2 := hok.2.2
    omega
  have HBO : Hid (backD (FW p1) (packB (encB (FW p1) (FW q))) = (0, FW q)) := Lib.hid (back_ok gq.rng hok)
  have HB0 := Lib.hid hb0
  have HSZ := Lib.hid hs0
  have HG1 := Lib.hid gx
  have HGQ := Lib.hid gq
  have HDN := Lib.hid hdn
  clear hx hb0 hs0 gx gq hok hp1 HF1 hd hdn
  go_enter Try.func45, Try.ntmps45
  go_upto_region 1 with fail
  rw [← hW0]
  clear hW0
  have a0 : W0.cell? ⟨w.heap.size, 0, none⟩ = some (.int .i64 0) := HX1.out.cell 0
  have a1 : W0.cell? ⟨w.heap.size, 1, none⟩ = some (.slice kA1 kn1 kc1) := HX1.out.cell 1
  have a2 : W0.cell? ⟨w.heap.size, 2, none⟩ = some (.slice gA1 gn1 gc1) := HX1.out.cell 2
  have a3 : W0.cell? ⟨w.heap.size, 3, none⟩ = some (.slice iA1 im1 ic1) := HX1.out.cell 3
  have a4 : W0.cell? ⟨w.heap.size, 4, none⟩ = some (.slice none 0 0) := HX1.out.cell 4
  have a5 : W0.cell? ⟨w.heap.size, 5, none⟩ = some (.slice none 0 0) := HX1.out.cell 5
  have a6 : W0.cell? ⟨w.heap.size, 6, none⟩ = some (.slice none 0 0) := HX1.out.cell 6
  go_wp2_with fail
  with_reducible refine (HF1'.out).mono ?_
  rintro e w1 ⟨A1, c1, rfl, hown1, hb1⟩
  have hz1 : w.heap.size + 2 = W0.heap.size := HSZ.out.symm
  have hz2 : W0.heap.size ≤ w1.heap.size := hb1.size
  have HK := Lib.hid (back_any A1 D (flatN 0 p1).length c1 dn dc w1.heap.size (FW p1) (packB (encB (FW p1) (FW q))) w1 (Rd.of_own hown1) ((HD.out.below (hb1.mono (by omega))).more (by omega)) rfl HDN.out (by have := own_cap2 hown1; omega) hd9 HG1.out.rng (packB_lt256 _) (Nat.le_refl _))
  have HBB1 := Lib.hid hb1
  clear hown1 hb1
  go_wp2_with fail
  with_reducible refine (HK.out).mono ?_
  clear HK
  rintro e w2 h
  unfold BackPost at h
  rw [HBO.out] at h
  obtain ⟨A2, c2, rfl, hown2, hb2⟩ := h
  have hz3 : w1.heap.size ≤ w2.heap.size := hb2.size
  have HU := Lib.hid (unflat_any A2 (FW q).length c2 w2.heap.size 0 q w2 (Rd.of_own hown2) rfl (own_cap2 hown2).1 (own_cap2 hown2).2 (Nat.le_refl _) HGQ.out.sz HGQ.out.wf)
  have HBB2 := Lib.hid hb2
  clear hown2 hb2
  dsimp only
  go_wp2_with fail
  with_reducible refine (HU.out).mono ?_
  clear HU
  rintro e w3 ⟨y, rfl, HY, hb3⟩
  obtain ⟨kA, kn, kc, ks, gA, gn, gc, gens, iA, im, ic, its⟩ := y
  dsimp only
  have hz4 : w2.heap.size ≤ w3.heap.size := hb3.size
  have hx := ((HX2.out.below HBB1.out HX2.out.lt).below HBB2.out (by omega)).below hb3 (by omega)
  have HX3 := Lib.hid hx
  have HBB3 := Lib.hid hb3
  have m0 : w3.cell? ⟨w.heap.size + 1, 0, none⟩ = some (.int .i64 0) := hx.cell 0
  have m1 : w3.cell? ⟨w.heap.size + 1, 1, none⟩ = some (.slice none 0 0) := hx.cell 1
  have m2 : w3.cell? ⟨w.heap.size + 1, 2, none⟩ = some (.slice none 0 0) := hx.cell 2
  have m3 : w3.cell? ⟨w.heap.size + 1, 3, none⟩ = some (.slice none 0 0) := hx.cell 3
  have m4 : w3.cell? ⟨w.heap.size + 1, 4, none⟩ = some (.slice none 0 0) := hx.cell 4
  have m5 : w3.cell? ⟨w.heap.size + 1, 5, none⟩ = some (.slice none 0 0) := hx.cell 5
  have m6 : w3.cell? ⟨w.heap.size + 1, 6, none⟩ = some (.slice none 0 0) := hx.cell 6
  have f0 := hx.frozen 0
  have f1 := hx.frozen 1
  have f2 := hx.frozen 2
  have f3 := hx.frozen 3
  have f4 := hx.frozen 4
  have f5 := hx.frozen 5
  have f6 := hx.frozen 6
  clear hx hb3
  go_wp2_with fail
  (try simp only [Exit.inBlock, Exit.then])
  have z0 := HX3.out.set_ 0 (Value.int .i64 0)
  have z1 := z0.set_ 1 (Value.slice kA kn kc)
  have z2 := z1.set_ 2 (Value.slice gA gn gc)
  have z3 := z2.set_ 3 (Value.slice iA im ic)
  have z4 := z3.set_ 4 (Value.slice none 0 0)
  have z5 := z4.set_ 5 (Value.slice none 0 0)
  have hK0 := ((((((((Kx.refl (B := 0) (F := [80])).set HX3.out (Nat.zero_le _) (by simp) 0 (Value.int .i64 0)).set z0 (Nat.zero_le _) (by simp) 1 (Value.slice kA kn kc)).set z1 (Nat.zero_le _) (by simp) 2 (Value.slice gA gn gc)).set z2 (Nat.zero_le _) (by simp) 3 (Value.slice iA im ic)).set z3 (Nat.zero_le _) (by simp) 4 (Value.slice none 0 0)).set z4 (Nat.zero_le _) (by simp) 5 (Value.slice none 0 0)).set z5 (Nat.zero_le _) (by simp) 6 (Value.slice none 0 0))
  refine bodyPost_ret (v := .tuple #[.agg #[.int .i64 0, .slice kA kn kc, .slice gA gn gc, .slice iA im ic, .slice none 0 0, .slice none 0 0, .slice none 0 0], .int .i64 0]) ?_ rfl ⟨⟨kA, kn, kc, ks, gA, gn, gc, gens, iA, im, ic, its⟩, rfl, Lib.hid ⟨HY.out.1.keep hK0 (by decide) (by decide) (by decide) (by decide) (by decide), HY.out.2⟩, ((((((((((HB0.out.trans (HBB1.out.mono (by omega))).trans (HBB2.out.mono (by omega))).trans (HBB3.out.mono (by omega))).setCell (p := ⟨w.heap.size + 1, 0, none⟩) (by show w.heap.size ≤ w.heap.size + 1; omega) _).setCell (p := ⟨w.heap.size + 1, 1, none⟩) (by show w.heap.size ≤ w.heap.size + 1; omega) _).setCell (p := ⟨w.heap.size + 1, 2, none⟩) (by show w.heap.size ≤ w.heap.size + 1; omega) _).setCell (p := ⟨w.heap.size + 1, 3, none⟩) (by show w.heap.size ≤ w.heap.size + 1; omega) _).setCell (p := ⟨w.heap.size + 1, 4, none⟩) (by show w.heap.size ≤ w.heap.size + 1; omega) _).setCell (p := ⟨w.heap.size + 1, 5, none⟩) (by show w.heap.size ≤ w.heap.size + 1; omega) _).setCell (p := ⟨w.heap.size + 1, 6, none⟩) (by show w.heap.size ≤ w.heap.size + 1; omega) _)⟩
  rw [results_c2 rfl]
  go_simp
end Go.Proofs.Ytnidcmhfbkdioaa
