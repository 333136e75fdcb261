/-
  The contract of game.Unflat, whatever is read. Conditions: what is read can be read.
-/
import Derived.Test.YtnidcmhfbkdioaaAn
namespace Go.Proofs.Ytnidcmhfbkdioaa
open Go.RowKit
set_option maxRecDepth 100000

/-- What Unflat returns: the state, or ErrForm. -/
def UfPost (w : World) (r : Sv × RS) (e : Ending) (w' : World) : Prop :=
  ((r.2.2 = false ∧ r.2.1 = [] ∧ ∃ y : Sm, e = .returned (.tuple #[.agg y.cs, .int .i64 0]) ∧ Hid (SmY w' 0 y ∧ y.p = r.1)) ∨ ((r.2.2 = true ∨ r.2.1 ≠ []) ∧ e = .returned (.tuple #[.agg #[.int .i64 0, .slice none 0 0, .slice none 0 0, .slice none 0 0, .slice none 0 0, .slice none 0 0, .slice none 0 0], .int .i64 3]))) ∧ Below w.heap.size w w'
set_option maxHeartbeats 16000000 in
theorem junflat_any (A : Option Addr) (n c B : Nat) (l : List Int) (w : World) (hr : Rd w B 1 A n (l.map (Value.int .i64))) (hn : n = l.length) (hnc : n ≤ c) (hc : c ≤ 9223372036854775807) (hB0 : B ≤ w.heap.size) (hx : l.length ≤ 1000000000) (hwf : AllW l) :
    Calls Try.prog 127 #[.slice A n c] w (UfPost w (rSt (l, false))) := by
  obtain ⟨i1, hi1, hz10, hz11, hz12⟩ := info_parts T.info131S
  obtain ⟨i2, hi2, hz20, hz21, hz22⟩ := info_parts T.info225
  obtain ⟨i3, hi3, hz30, hz31, hz32⟩ := info_parts T.info227
  obtain ⟨W0, hW0⟩ : ∃ W0, W0 = (w.alloc (.cells #[.int .i64 0, .slice none 0 0, .slice none 0 0, .slice none 0 0, .slice none 0 0, .slice none 0 0, .slice none 0 0] 80)).alloc (.cells #[.slice A n c, .bool false] 299) := ⟨_, rfl⟩
  have hb0 : Below w.heap.size w W0 := by rw [hW0]; exact Below.al (Below.al (Below.refl _ _) _) _
  have hs0 : W0.heap.size = w.heap.size + 2 := by rw [hW0]; simp
  have HX2 : Hid (Bk W0 w.heap.size 80 #[.int .i64 0, .slice none 0 0, .slice none 0 0, .slice none 0 0, .slice none 0 0, .slice none 0 0, .slice none 0 0]) := Lib.hid (by rw [hW0]; exact (Bk.new _ _ _).alloc _)
  have hR0 : RJ W0 B (w.heap.size + 1) (l, false) := ⟨A, n, c, by rw [hW0]; exact Bk.two _ _ _ _, hn, hnc, hc, hr.below (hb0.mono hB0), hwf⟩
  have HN1 := Lib.hid (jnext_any (w.heap.size + 1) B (l, false) W0 hR0 (by omega))
  have HB0 := Lib.hid hb0
  obtain ⟨T, lT⟩ : ∃ z, z = (rN (l, false)).1 := ⟨_, rfl⟩
  obtain ⟨s1, ls1⟩ : ∃ z, z = (rN (l, false)).2 := ⟨_, rfl⟩
  obtain ⟨pd, lpd⟩ : ∃ z, z = (rWd s1).1 := ⟨_, rfl⟩
  obtain ⟨s2, ls2⟩ : ∃ z, z = (rWd s1).2 := ⟨_, rfl⟩
  obtain ⟨n1, ln1⟩ : ∃ z, z = (rM s2).1 := ⟨_, rfl⟩
  obtain ⟨s3, ls3⟩ : ∃ z, z = (rM s2).2 := ⟨_, rfl⟩
  obtain ⟨cts, lcts⟩ : ∃ z, z = (rep rCt n1 s3).1 := ⟨_, rfl⟩
  obtain ⟨s4, ls4⟩ : ∃ z, z = (rep rCt n1 s3).2 := ⟨_, rfl⟩
  obtain ⟨n2, ln2⟩ : ∃ z, z = (rM s4).1 := ⟨_, rfl⟩
  obtain ⟨s5, ls5⟩ : ∃ z, z = (rM s4).2 := ⟨_, rfl⟩
  obtain ⟨mds, lmds⟩ : ∃ z, z = (rep rMd n2 s5).1 := ⟨_, rfl⟩
  obtain ⟨s6, ls6⟩ : ∃ z, z = (rep rMd n2 s5).2 := ⟨_, rfl⟩
  obtain ⟨n3, ln3⟩ : ∃ z, z = (rM s6).1 := ⟨_, rfl⟩
  obtain ⟨s7, ls7⟩ : ∃ z, z = (rM s6).2 := ⟨_, rfl⟩
  obtain ⟨evs, levs⟩ : ∃ z, z = (rep rEv n3 s7).1 := ⟨_, rfl⟩
  obtain ⟨s8, ls8⟩ : ∃ z, z = (rep rEv n3 s7).2 := ⟨_, rfl⟩
  have HST : Hid (rSt (l, false) = (⟨T, pd, cts, mds, evs⟩, s8)) := Lib.hid (rSt_eq lT ls1 lpd ls2 ln1 ls3 lcts ls4 ln2 ls5 lmds ls6 ln3 ls7 levs ls8)
  have q1 : s1.1.length ≤ 1000000000 := by rw [ls1]; exact Nat.le_trans (rN_le _) hx
  have q2 : s2.1.length ≤ 1000000000 := by rw [ls2]; exact Nat.le_trans (rWd_le _) q1
  have q3 : s3.1.length ≤ 1000000000 ∧ n1 ≤ 1000000000 := by have := rM_le s2; rw [← ls3, ← ln1] at this; omega
  have q4 : s4.1.length ≤ 1000000000 := by rw [ls4]; exact Nat.le_trans (rep_le rCt rCt_le _ _) q3.1
  have q5 : s5.1.length ≤ 1000000000 ∧ n2 ≤ 1000000000 := by have := rM_le s4; rw [← ls5, ← ln2] at this; omega
  have q6 : s6.1.length ≤ 1000000000 := by rw [ls6]; exact Nat.le_trans (rep_le rMd rMd_le _ _) q5.1
  have q7 : s7.1.length ≤ 1000000000 ∧ n3 ≤ 1000000000 := by have := rM_le s6; rw [← ls7, ← ln3] at this; omega
  have HL1 := Lib.hid (And.intro ls1 (And.intro lpd ls2))
  have HL2 := Lib.hid (And.intro ln1 ls3)
  have HL3 := Lib.hid (And.intro lcts ls4)
  have HL4 := Lib.hid (And.intro ln2 ls5)
  have HL5 := Lib.hid (And.intro lmds ls6)
  have HL6 := Lib.hid (And.intro ln3 ls7)
  have HL7 := Lib.hid (And.intro levs ls8)
  rw [← lT, ← ls1] at HN1
  have hn1 := q3.2
  have hn2 := q5.2
  have hn3 := q7.2
  have HQ := Lib.hid (And.intro q1 (And.intro q2 (And.intro q3.1 (And.intro q4 (And.intro q5.1 (And.intro q6 q7.1))))))
  clear hr hn hb0 hs0 hR0 hx hwf lT ls1 lpd ls2 ln1 ls3 lcts ls4 ln2 ls5 lmds ls6 ln3 ls7 levs ls8 q1 q2 q3 q4 q5 q6 q7
  go_enter Try.func127, Try.ntmps127
  go_upto_region 2 with fail
  rw [← hW0]
  clear hW0
  go_wp2_with fail
  refine HN1.out.mono ?_
  clear HN1
  rintro e w1 ⟨rfl, hr1, hg1⟩
  obtain ⟨g, hg⟩ : ∃ g, g = w.heap.size + 1 := ⟨_, rfl⟩
  rw [← hg] at hr1 hg1 ⊢
  have hB : B ≤ g := by omega
  have hgw : w.heap.size < g := by omega
  clear hg
  have HQ1 : Hid (Fq [g] w w1) := Lib.hid ((Fq.of_below HB0.out).gb hg1)
  have hx2 : Bk w1 w.heap.size 80 #[.int .i64 0, .slice none 0 0, .slice none 0 0, .slice none 0 0, .slice none 0 0, .slice none 0 0, .slice none 0 0] := HX2.out.grown hg1 (fun e => by injection e with e; omega)
  obtain ⟨w2, hw2⟩ : ∃ w2, w2 = w1.alloc (.cells #[.int .i64 T, .slice none 0 0, .slice none 0 0, .slice none 0 0, .slice none 0 0, .slice none 0 0, .slice none 0 0] 80) := ⟨_, rfl⟩
  obtain ⟨h5, hh5⟩ : ∃ h5, h5 = w1.heap.size := ⟨_, rfl⟩
  have hb2 : Below w1.heap.size w1 w2 := by rw [hw2]; exact (Below.refl _ _).alloc (Nat.le_refl _) _
  have HX5 : Hid (Bk w2 h5 80 #[.int .i64 T, .slice none 0 0, .slice none 0 0, .slice none 0 0, .slice none 0 0, .slice none 0 0, .slice none 0 0]) := Lib.hid (by rw [hw2, hh5]; exact Bk.new _ _ _)
  have HX2' : Hid (Bk w2 w.heap.size 80 #[.int .i64 0, .slice none 0 0, .slice none 0 0, .slice none 0 0, .slice none 0 0, .slice none 0 0, .slice none 0 0]) := Lib.hid (hx2.below hb2 hx2.lt)
  have hne5 : w.heap.size < h5 ∧ g < h5 := by have h1 := hx2.lt; have h2 := hr1.lt; exact ⟨by omega, by omega⟩
  have HQ2 : Hid (Fq [g] w w2) := Lib.hid (HQ1.out.trans (Fq.of_below hb2) (SubF.refl _ _))
  have hr2 := hr1.below hb2 (by have := hr1.lt; omega)
  have HR2 := Lib.hid hr2
  have HWD := Lib.hid (jworld_any g B s1 w2 hr2 hB HQ.out.1)
  rw [← HL1.out.2.1, ← HL1.out.2.2] at HWD
  clear hr2 hb2 hx2 hr1 hg1 HX2 HQ1
  go_wp2_with fail
  rw [← hw2, ← hh5]
  clear hw2 hh5
  refine HWD.out.mono ?_
  clear HWD
  rintro e w3 ⟨y, rfl, HY, hr3, hq3⟩
  obtain ⟨kA, kn, kc, ks, gA, gn, gc, gens, iA, im, ic, its⟩ := y
  have hx5 : Bk w3 h5 80 #[.int .i64 T, .slice none 0 0, .slice none 0 0, .slice none 0 0, .slice none 0 0, .slice none 0 0, .slice none 0 0] := (hq3.low h5 HX5.out.lt (by simp; omega)).trans HX5.out
  have hx2 : Bk w3 w.heap.size 80 #[.int .i64 0, .slice none 0 0, .slice none 0 0, .slice none 0 0, .slice none 0 0, .slice none 0 0, .slice none 0 0] := (hq3.low _ HX2'.out.lt (by simp; omega)).trans HX2'.out
  have c1 : w3.cell? ⟨h5, 1, none⟩ = some (.slice none 0 0) := hx5.cell 1
  have c2 : w3.cell? ⟨h5, 2, none⟩ = some (.slice none 0 0) := hx5.cell 2
  have c3 : w3.cell? ⟨h5, 3, none⟩ = some (.slice none 0 0) := hx5.cell 3
  have f1 := hx5.frozen 1
  have f2 := hx5.frozen 2
  have f3 := hx5.frozen 3
  have HQ3 : Hid (Fq [g] w w3) := Lib.hid (HQ2.out.trans hq3 (SubF.refl _ _))
  have HR3 := Lib.hid hr3
  have HX5' := Lib.hid hx5
  have HX2'' := Lib.hid hx2
  clear hx5 hx2 hr3 hq3 HX5 HX2' HQ2 HR2
  unfold Wd.v
  dsimp only
  go_upto_region 4 with fail
  obtain ⟨w4, hw4⟩ : ∃ w4, w4 = ((w3.setCell ⟨h5, 1, none⟩ (.slice kA kn kc)).setCell ⟨h5, 2, none⟩ (.slice gA gn gc)).setCell ⟨h5, 3, none⟩ (.slice iA im ic) := ⟨_, rfl⟩
  have hk1 := HX5'.out.set_ 1 (Value.slice kA kn kc)
  have hk2 := hk1.set_ 2 (Value.slice gA gn gc)
  have HX54 : Hid (Bk w4 h5 80 #[.int .i64 T, .slice kA kn kc, .slice gA gn gc, .slice iA im ic, .slice none 0 0, .slice none 0 0, .slice none 0 0]) := Lib.hid (by rw [hw4]; exact hk2.set_ 3 _)
  have hKB : Kx B [80] w3 w4 := by
    rw [hw4]
    exact (((Kx.refl (B := B)).set HX5'.out (by omega) (by simp) 1 _).set hk1 (by omega) (by simp) 2 _).set hk2 (by omega) (by simp) 3 _
  have HX24 : Hid (Bk w4 w.heap.size 80 #[.int .i64 0, .slice none 0 0, .slice none 0 0, .slice none 0 0, .slice none 0 0, .slice none 0 0, .slice none 0 0]) := Lib.hid (by
    rw [hw4]
    exact ((HX2''.out.far (p := ⟨h5, 1, none⟩) (by show w.heap.size ≠ h5; omega) _).far (p := ⟨h5, 2, none⟩) (by show w.heap.size ≠ h5; omega) _).far (p := ⟨h5, 3, none⟩) (by show w.heap.size ≠ h5; omega) _)
  have HR4 : Hid (RJ w4 B g s2) := Lib.hid (HR3.out.kx hKB (Nat.le_refl _) (HR3.out.lo hB) (by decide))
  have HY4 : Hid (WdY w4 0 ⟨kA, kn, kc, ks, gA, gn, gc, gens, iA, im, ic, its⟩) := Lib.hid (HY.out.1.keep (hKB.mono (Nat.zero_le _) (fun _ h => h)) (by decide) (by decide) (by decide) (by decide) (by decide))
  have HYP : Hid ((⟨kA, kn, kc, ks, gA, gn, gc, gens, iA, im, ic, its⟩ : Wd).p = pd) := Lib.hid HY.out.2
  have HQ4 : Hid (Fq [g] w w4) := Lib.hid (by
    rw [hw4]
    exact ((HQ3.out.set (.inr (by omega)) 1 _).set (.inr (by omega)) 2 _).set (.inr (by omega)) 3 _)
  rw [← hw4]
  clear hw4 hk1 hk2 hKB HX5' HX2'' HR3 HY HQ3 c1 c2 c3 f1 f2 f3
  have HM := Lib.hid (by have := jmany_any g B s2 w4 HR4.out hB; rw [← HL2.out.1, ← HL2.out.2] at this; exact this)
  go_wp2_with fail
  refine HM.out.mono ?_
  clear HM
  rintro e m0 ⟨rfl, hr, hg⟩
  have hq : Fq [g] w4 m0 := Fq.refl.gb hg
  have hkf : Kx 0 [299] w4 m0 := Kx.fqJ hq HR4.out (Nat.zero_le _)
  have HX5m0 : Hid (Bk m0 h5 80 #[.int .i64 T, .slice kA kn kc, .slice gA gn gc, .slice iA im ic, .slice none 0 0, .slice none 0 0, .slice none 0 0]) := Lib.hid (hkf.bk HX54.out (by decide))
  have HX2m0 : Hid (Bk m0 w.heap.size 80 #[.int .i64 0, .slice none 0 0, .slice none 0 0, .slice none 0 0, .slice none 0 0, .slice none 0 0, .slice none 0 0]) := Lib.hid (hkf.bk HX24.out (by decide))
  have HYm0 : Hid (WdY m0 0 ⟨kA, kn, kc, ks, gA, gn, gc, gens, iA, im, ic, its⟩) := Lib.hid (HY4.out.keep hkf (by decide) (by decide) (by decide) (by decide) (by decide))
  have HRm0 := Lib.hid hr
  have HQm0 : Hid (Fq [g] w m0) := Lib.hid (HQ4.out.trans hq (SubF.refl _ _))
  clear hr hg hq hkf HX54 HX24 HY4 HR4 HQ4
  go_wp2_with fail
  go_loopw [20] (fun iv wr => ∃ (i xc : Nat) (XA : Option Addr), i ≤ n1 ∧ iv = .int .i64 i ∧ Hid (Bk wr h5 80 #[.int .i64 T, .slice kA kn kc, .slice gA gn gc, .slice iA im ic, .slice XA i xc, .slice none 0 0, .slice none 0 0]) ∧ Hid (Bk wr w.heap.size 80 #[.int .i64 0, .slice none 0 0, .slice none 0 0, .slice none 0 0, .slice none 0 0, .slice none 0 0, .slice none 0 0]) ∧ Hid (WdY wr 0 ⟨kA, kn, kc, ks, gA, gn, gc, gens, iA, im, ic, its⟩) ∧ Hid (wr.ownsRow w.heap.size 131 10 (.slice XA i xc) i (rwCs (rep rCt i s3).1)) ∧ Hid (RJ wr B g (rep rCt i s3).2) ∧ Hid (Fq [g] w wr)) (fun iv _ => n1 - (intOf iv).toNat)
  case atStart => exact ⟨0, 0, none, Nat.zero_le _, rfl, HX5m0, HX2m0, HYm0, Lib.hid (World.ownsRow_nil _ _ _ _), HRm0, HQm0⟩
  case round =>
    clear HX5m0 HX2m0 HYm0 HRm0 HQm0
    obtain ⟨i, xc, XA, hi, rfl, HX5, HX2, HY, HO, HR, HQ0⟩ := hrel
    obtain ⟨wo, rfl⟩ : ∃ z, z = wr := ⟨_, rfl⟩
    have hwo : h5 < wo.heap.size := HX5.out.lt
    by_cases hlt : i < n1
    · obtain ⟨sI, hsI⟩ : ∃ sI, sI = (rep rCt i s3).2 := ⟨_, rfl⟩
      have hI9 : sI.1.length ≤ 1000000000 := by rw [hsI]; exact Nat.le_trans (rep_le rCt rCt_le i s3) HQ.out.2.2.1
      have HSI : Hid (rep rCt (i + 1) s3 = ((rep rCt i s3).1 ++ [(rCt sI).1], (rCt sI).2)) := Lib.hid (by rw [hsI]; rfl)
      obtain ⟨xl, hxl⟩ : ∃ xl, xl = (rep rCt i s3).1 := ⟨_, rfl⟩
      rw [← hxl] at HO HSI
      rw [← hsI] at HR
      clear hsI hxl
      iterate 15 go_step
      refine ufB1_any (n := n1) hB hB0 hgw hne5 hwo hlt hn1 hI9 HX5 HX2 HY  HO HR HQ0 ?_
      intros
      rename_i wN gB cB HX5n HX2n HYn  HOn0 HRn0 HQn
      have HOn : Hid (wN.ownsRow w.heap.size 131 10 (.slice (some ⟨gB, 0, none⟩) (i + 1) cB) (i + 1) (rwCs (rep rCt (i + 1) s3).1)) := Lib.hid (by rw [HSI.out]; exact HOn0.out)
      have HRn : Hid (RJ wN B g (rep rCt (i + 1) s3).2) := Lib.hid (by rw [HSI.out]; exact HRn0.out)
      clear HOn0 HRn0 HX5 HX2 HY HO HR HQ0 hI9 
      go_wp2_with fail
      go_roundw
      case rel => exact ⟨i + 1, cB, _, by omega, by go_num, HX5n, HX2n, HYn, HOn, HRn, HQn⟩
      case measure => simp [intOf]; omega
    · obtain rfl : i = n1 := by omega
      obtain ⟨cn, rfl⟩ : ∃ z, z = i := ⟨_, rfl⟩
      obtain ⟨cA, rfl⟩ : ∃ z, z = XA := ⟨_, rfl⟩
      obtain ⟨cc, rfl⟩ : ∃ z, z = xc := ⟨_, rfl⟩
      rw [← HL3.out.1] at HO
      rw [← HL3.out.2] at HR
      obtain ⟨x0, rfl⟩ : ∃ z, z = wo := ⟨_, rfl⟩
      have HOf0 := HO
      clear HO
      have HM := Lib.hid (by have := jmany_any g B s4 x0 HR.out hB; rw [← HL4.out.1, ← HL4.out.2] at this; exact this)
      go_wp2_with fail
      refine HM.out.mono ?_
      clear HM
      rintro e m1 ⟨rfl, hr, hg⟩
      have hq : Fq [g] x0 m1 := Fq.refl.gb hg
      have hkf : Kx 0 [299] x0 m1 := Kx.fqJ hq HR.out (Nat.zero_le _)
      have HX5m1 : Hid (Bk m1 h5 80 #[.int .i64 T, .slice kA kn kc, .slice gA gn gc, .slice iA im ic, .slice cA cn cc, .slice none 0 0, .slice none 0 0]) := Lib.hid (hkf.bk HX5.out (by decide))
      have HX2m1 : Hid (Bk m1 w.heap.size 80 #[.int .i64 0, .slice none 0 0, .slice none 0 0, .slice none 0 0, .slice none 0 0, .slice none 0 0, .slice none 0 0]) := Lib.hid (hkf.bk HX2.out (by decide))
      have HYm1 : Hid (WdY m1 0 ⟨kA, kn, kc, ks, gA, gn, gc, gens, iA, im, ic, its⟩) := Lib.hid (HY.out.keep hkf (by decide) (by decide) (by decide) (by decide) (by decide))
      have HO0m1 : Hid (m1.ownsRow w.heap.size 131 10 (.slice cA cn cc) cn (rwCs cts)) := Lib.hid (hkf.own HOf0.out (by decide))
      have HRm1 := Lib.hid hr
      have HQm1 : Hid (Fq [g] w m1) := Lib.hid (HQ0.out.trans hq (SubF.refl _ _))
      clear hr hg hq hkf HX5 HX2 HY HR HQ0 HOf0
      go_wp2_with fail
      go_loopw [59] (fun iv wr => ∃ (i xc : Nat) (XA : Option Addr) (ml : List Mdm), i ≤ n2 ∧ iv = .int .i64 i ∧ Hid (Bk wr h5 80 #[.int .i64 T, .slice kA kn kc, .slice gA gn gc, .slice iA im ic, .slice cA cn cc, .slice XA i xc, .slice none 0 0]) ∧ Hid (Bk wr w.heap.size 80 #[.int .i64 0, .slice none 0 0, .slice none 0 0, .slice none 0 0, .slice none 0 0, .slice none 0 0, .slice none 0 0]) ∧ Hid (WdY wr 0 ⟨kA, kn, kc, ks, gA, gn, gc, gens, iA, im, ic, its⟩) ∧ Hid (wr.ownsRow w.heap.size 131 10 (.slice cA cn cc) cn (rwCs cts)) ∧ Hid (wr.ownsRow w.heap.size 225 4 (.slice XA i xc) i (mdCs ml) ∧ ml.map Mdm.p = (rep rMd i s5).1 ∧ ∀ z ∈ ml, MdY wr 0 z) ∧ Hid (RJ wr B g (rep rMd i s5).2) ∧ Hid (Fq [g] w wr)) (fun iv _ => n2 - (intOf iv).toNat)
      case atStart => exact ⟨0, 0, none, [], Nat.zero_le _, rfl, HX5m1, HX2m1, HYm1, HO0m1, Lib.hid ⟨World.ownsRow_nil _ _ _ _, rfl, fun z hz => by cases hz⟩, HRm1, HQm1⟩
      case round =>
        clear HX5m1 HX2m1 HYm1 HRm1 HQm1 HO0m1
        obtain ⟨i, xc, XA, ml, hi, rfl, HX5, HX2, HY, HP0, HO, HR, HQ0⟩ := hrel
        obtain ⟨wo, rfl⟩ : ∃ z, z = wr := ⟨_, rfl⟩
        have hwo : h5 < wo.heap.size := HX5.out.lt
        by_cases hlt : i < n2
        · obtain ⟨sI, hsI⟩ : ∃ sI, sI = (rep rMd i s5).2 := ⟨_, rfl⟩
          have hI9 : sI.1.length ≤ 1000000000 := by rw [hsI]; exact Nat.le_trans (rep_le rMd rMd_le i s5) HQ.out.2.2.2.2.1
          have HSI : Hid (rep rMd (i + 1) s5 = ((rep rMd i s5).1 ++ [(rMd sI).1], (rMd sI).2)) := Lib.hid (by rw [hsI]; rfl)
          rw [← hsI] at HR
          clear hsI
          obtain ⟨xl, hxl⟩ : ∃ xl, xl = (rep rMd i s5).1 := ⟨_, rfl⟩
          rw [← hxl] at HO HSI
          clear hxl
          iterate 15 go_step
          refine ufB3_any (n := n2) ml hB hB0 hgw hne5 hwo hlt hn2 hI9 HX5 HX2 HY HP0 HO HR HQ0 ?_
          intros
          rename_i wN gB cB ml2 HX5n HX2n HYn HP0n HOn0 HRn0 HQn
          have HOn : Hid (wN.ownsRow w.heap.size 225 4 (.slice (some ⟨gB, 0, none⟩) (i + 1) cB) (i + 1) (mdCs ml2) ∧ ml2.map Mdm.p = (rep rMd (i + 1) s5).1 ∧ ∀ z ∈ ml2, MdY wN 0 z) := Lib.hid (by rw [HSI.out]; exact HOn0.out)
          have HRn : Hid (RJ wN B g (rep rMd (i + 1) s5).2) := Lib.hid (by rw [HSI.out]; exact HRn0.out)
          clear HOn0 HRn0 HX5 HX2 HY HO HR HQ0 hI9 HP0
          go_wp2_with fail
          go_roundw
          case rel => exact ⟨i + 1, cB, _, _, by omega, by go_num, HX5n, HX2n, HYn, HP0n, HOn, HRn, HQn⟩
          case measure => simp [intOf]; omega
        · obtain rfl : i = n2 := by omega
          obtain ⟨mn, rfl⟩ : ∃ z, z = i := ⟨_, rfl⟩
          obtain ⟨mA, rfl⟩ : ∃ z, z = XA := ⟨_, rfl⟩
          obtain ⟨mc, rfl⟩ : ∃ z, z = xc := ⟨_, rfl⟩
          rw [← HL5.out.1] at HO
          rw [← HL5.out.2] at HR
          obtain ⟨x1, rfl⟩ : ∃ z, z = wo := ⟨_, rfl⟩
          have HOf1 := HO
          clear HO
          have HM := Lib.hid (by have := jmany_any g B s6 x1 HR.out hB; rw [← HL6.out.1, ← HL6.out.2] at this; exact this)
          go_wp2_with fail
          refine HM.out.mono ?_
          clear HM
          rintro e m2 ⟨rfl, hr, hg⟩
          have hq : Fq [g] x1 m2 := Fq.refl.gb hg
          have hkf : Kx 0 [299] x1 m2 := Kx.fqJ hq HR.out (Nat.zero_le _)
          have HX5m2 : Hid (Bk m2 h5 80 #[.int .i64 T, .slice kA kn kc, .slice gA gn gc, .slice iA im ic, .slice cA cn cc, .slice mA mn mc, .slice none 0 0]) := Lib.hid (hkf.bk HX5.out (by decide))
          have HX2m2 : Hid (Bk m2 w.heap.size 80 #[.int .i64 0, .slice none 0 0, .slice none 0 0, .slice none 0 0, .slice none 0 0, .slice none 0 0, .slice none 0 0]) := Lib.hid (hkf.bk HX2.out (by decide))
          have HYm2 : Hid (WdY m2 0 ⟨kA, kn, kc, ks, gA, gn, gc, gens, iA, im, ic, its⟩) := Lib.hid (HY.out.keep hkf (by decide) (by decide) (by decide) (by decide) (by decide))
          have HO0m2 : Hid (m2.ownsRow w.heap.size 131 10 (.slice cA cn cc) cn (rwCs cts)) := Lib.hid (hkf.own HP0.out (by decide))
          have HO1m2 : Hid (m2.ownsRow w.heap.size 225 4 (.slice mA mn mc) mn (mdCs ml) ∧ ml.map Mdm.p = mds ∧ ∀ z ∈ ml, MdY m2 0 z) := Lib.hid ⟨hkf.own HOf1.out.1 (by decide), HOf1.out.2.1, fun z hz => (HOf1.out.2.2 z hz).keep hkf (by decide)⟩
          have HRm2 := Lib.hid hr
          have HQm2 : Hid (Fq [g] w m2) := Lib.hid (HQ0.out.trans hq (SubF.refl _ _))
          clear hr hg hq hkf HX5 HX2 HY HR HQ0 HP0 HOf1
          go_wp2_with fail
          go_loopw [81] (fun iv wr => ∃ (i xc : Nat) (XA : Option Addr), i ≤ n3 ∧ iv = .int .i64 i ∧ Hid (Bk wr h5 80 #[.int .i64 T, .slice kA kn kc, .slice gA gn gc, .slice iA im ic, .slice cA cn cc, .slice mA mn mc, .slice XA i xc]) ∧ Hid (Bk wr w.heap.size 80 #[.int .i64 0, .slice none 0 0, .slice none 0 0, .slice none 0 0, .slice none 0 0, .slice none 0 0, .slice none 0 0]) ∧ Hid (WdY wr 0 ⟨kA, kn, kc, ks, gA, gn, gc, gens, iA, im, ic, its⟩) ∧ Hid (wr.ownsRow w.heap.size 131 10 (.slice cA cn cc) cn (rwCs cts)) ∧ Hid (wr.ownsRow w.heap.size 225 4 (.slice mA mn mc) mn (mdCs ml) ∧ ml.map Mdm.p = mds ∧ ∀ z ∈ ml, MdY wr 0 z) ∧ Hid (wr.ownsRow w.heap.size 227 4 (.slice XA i xc) i (rwCs (rep rEv i s7).1)) ∧ Hid (RJ wr B g (rep rEv i s7).2) ∧ Hid (Fq [g] w wr)) (fun iv _ => n3 - (intOf iv).toNat)
          case atStart => exact ⟨0, 0, none, Nat.zero_le _, rfl, HX5m2, HX2m2, HYm2, HO0m2, HO1m2, Lib.hid (World.ownsRow_nil _ _ _ _), HRm2, HQm2⟩
          case round =>
            clear HX5m2 HX2m2 HYm2 HRm2 HQm2 HO0m2 HO1m2
            obtain ⟨i, xc, XA, hi, rfl, HX5, HX2, HY, HP0, HP1, HO, HR, HQ0⟩ := hrel
            obtain ⟨wo, rfl⟩ : ∃ z, z = wr := ⟨_, rfl⟩
            have hwo : h5 < wo.heap.size := HX5.out.lt
            by_cases hlt : i < n3
            · obtain ⟨sI, hsI⟩ : ∃ sI, sI = (rep rEv i s7).2 := ⟨_, rfl⟩
              have hI9 : sI.1.length ≤ 1000000000 := by rw [hsI]; exact Nat.le_trans (rep_le rEv rEv_le i s7) HQ.out.2.2.2.2.2.2
              have HSI : Hid (rep rEv (i + 1) s7 = ((rep rEv i s7).1 ++ [(rEv sI).1], (rEv sI).2)) := Lib.hid (by rw [hsI]; rfl)
              obtain ⟨xl, hxl⟩ : ∃ xl, xl = (rep rEv i s7).1 := ⟨_, rfl⟩
              rw [← hxl] at HO HSI
              rw [← hsI] at HR
              clear hsI hxl
              iterate 15 go_step
              refine ufB5_any (n := n3) hB hB0 hgw hne5 hwo hlt hn3 hI9 HX5 HX2 HY HP0 HP1 HO HR HQ0 ?_
              intros
              rename_i wN gB cB HX5n HX2n HYn HP0n HP1n HOn0 HRn0 HQn
              have HOn : Hid (wN.ownsRow w.heap.size 227 4 (.slice (some ⟨gB, 0, none⟩) (i + 1) cB) (i + 1) (rwCs (rep rEv (i + 1) s7).1)) := Lib.hid (by rw [HSI.out]; exact HOn0.out)
              have HRn : Hid (RJ wN B g (rep rEv (i + 1) s7).2) := Lib.hid (by rw [HSI.out]; exact HRn0.out)
              clear HOn0 HRn0 HX5 HX2 HY HO HR HQ0 hI9 HP0 HP1
              go_wp2_with fail
              go_roundw
              case rel => exact ⟨i + 1, cB, _, by omega, by go_num, HX5n, HX2n, HYn, HP0n, HP1n, HOn, HRn, HQn⟩
              case measure => simp [intOf]; omega
            · obtain rfl : i = n3 := by omega
              obtain ⟨en, rfl⟩ : ∃ z, z = i := ⟨_, rfl⟩
              obtain ⟨eA, rfl⟩ : ∃ z, z = XA := ⟨_, rfl⟩
              obtain ⟨ec, rfl⟩ : ∃ z, z = xc := ⟨_, rfl⟩
              rw [← HL7.out.1] at HO
              rw [← HL7.out.2] at HR
              obtain ⟨x2, rfl⟩ : ∃ z, z = wo := ⟨_, rfl⟩
              have HOf2 := HO
              clear HO
              obtain ⟨A7, n7, c7, hb7, hn7, _, _, _, _⟩ := HR.out
              have r0 : x2.cell? ⟨g, 0, none⟩ = some (.slice A7 n7 c7) := hb7.cell 0
              have r1 : x2.cell? ⟨g, 1, none⟩ = some (.bool s8.2) := hb7.cell 1
              have k0 : x2.cell? ⟨h5, 0, none⟩ = some (.int .i64 T) := HX5.out.cell 0
              have k1 : x2.cell? ⟨h5, 1, none⟩ = some (.slice kA kn kc) := HX5.out.cell 1
              have k2 : x2.cell? ⟨h5, 2, none⟩ = some (.slice gA gn gc) := HX5.out.cell 2
              have k3 : x2.cell? ⟨h5, 3, none⟩ = some (.slice iA im ic) := HX5.out.cell 3
              have k4 : x2.cell? ⟨h5, 4, none⟩ = some (.slice cA cn cc) := HX5.out.cell 4
              have k5 : x2.cell? ⟨h5, 5, none⟩ = some (.slice mA mn mc) := HX5.out.cell 5
              have k6 : x2.cell? ⟨h5, 6, none⟩ = some (.slice eA en ec) := HX5.out.cell 6
              have m0 : x2.cell? ⟨w.heap.size, 0, none⟩ = some (.int .i64 0) := HX2.out.cell 0
              have f0 := HX2.out.frozen 0
              have m1 : x2.cell? ⟨w.heap.size, 1, none⟩ = some (.slice none 0 0) := HX2.out.cell 1
              have f1 := HX2.out.frozen 1
              have m2 : x2.cell? ⟨w.heap.size, 2, none⟩ = some (.slice none 0 0) := HX2.out.cell 2
              have f2 := HX2.out.frozen 2
              have m3 : x2.cell? ⟨w.heap.size, 3, none⟩ = some (.slice none 0 0) := HX2.out.cell 3
              have f3 := HX2.out.frozen 3
              have m4 : x2.cell? ⟨w.heap.size, 4, none⟩ = some (.slice none 0 0) := HX2.out.cell 4
              have f4 := HX2.out.frozen 4
              have m5 : x2.cell? ⟨w.heap.size, 5, none⟩ = some (.slice none 0 0) := HX2.out.cell 5
              have f5 := HX2.out.frozen 5
              have m6 : x2.cell? ⟨w.heap.size, 6, none⟩ = some (.slice none 0 0) := HX2.out.cell 6
              have f6 := HX2.out.frozen 6
              have hn8 : n7 = s8.1.length := hn7
              have HN8 := Lib.hid hn8
              clear hb7 hn7 hn8
              by_cases hbad : s8.2 = true ∨ s8.1 ≠ []
              · have HBAD := Lib.hid hbad
                have hfin : UfPost w (rSt (l, false)) (.returned (.tuple #[.agg #[.int .i64 0, .slice none 0 0, .slice none 0 0, .slice none 0 0, .slice none 0 0, .slice none 0 0, .slice none 0 0], .int .i64 3])) ((((((((x2.setCell ⟨w.heap.size, 0, none⟩ (.int .i64 0)).setCell ⟨w.heap.size, 1, none⟩ (.slice none 0 0)).setCell ⟨w.heap.size, 2, none⟩ (.slice none 0 0)).setCell ⟨w.heap.size, 3, none⟩ (.slice none 0 0)).setCell ⟨w.heap.size, 4, none⟩ (.slice none 0 0)).setCell ⟨w.heap.size, 5, none⟩ (.slice none 0 0)).setCell ⟨w.heap.size, 6, none⟩ (.slice none 0 0))) := by
                  refine ⟨.inr ⟨by rw [HST.out]; exact hbad, rfl⟩, Fq.below (((((((HQ0.out.set (.inr (Nat.le_refl _)) 0 _).set (.inr (Nat.le_refl _)) 1 _).set (.inr (Nat.le_refl _)) 2 _).set (.inr (Nat.le_refl _)) 3 _).set (.inr (Nat.le_refl _)) 4 _).set (.inr (Nat.le_refl _)) 5 _).set (.inr (Nat.le_refl _)) 6 _) (fun k hk => by have e := List.mem_singleton.1 hk; omega) (Nat.le_refl _)⟩
                have HF := Lib.hid hfin
                have hor : (s8.2 = true) ∨ (s8.2 = false ∧ 0 < n7) := by
                  cases hb : s8.2 with
                  | true => exact .inl rfl
                  | false => exact .inr ⟨rfl, by
                      rw [HN8.out]
                      rcases hbad with h | h
                      · rw [hb] at h; cases h
                      · exact List.length_pos_iff.2 h⟩
                clear hbad hfin
                rcases hor with hb | ⟨hb, hpos⟩
                · rw [hb] at r1
                  clear hb
                  go_wp2_with fail
                  (try simp only [Exit.inBlock, Exit.then])
                  refine bodyPost_ret (v := .tuple #[.agg #[.int .i64 0, .slice none 0 0, .slice none 0 0, .slice none 0 0, .slice none 0 0, .slice none 0 0, .slice none 0 0], .int .i64 3]) ?_ rfl HF.out
                  rw [results_c2 rfl]
                  go_simp
                · rw [hb] at r1
                  clear hb
                  go_wp2_with fail
                  (try simp only [Exit.inBlock, Exit.then])
                  refine bodyPost_ret (v := .tuple #[.agg #[.int .i64 0, .slice none 0 0, .slice none 0 0, .slice none 0 0, .slice none 0 0, .slice none 0 0, .slice none 0 0], .int .i64 3]) ?_ rfl HF.out
                  rw [results_c2 rfl]
                  go_simp
              · have hb : s8.2 = false := by
                  cases hb : s8.2 with
                  | true => exact absurd (.inl hb) hbad
                  | false => rfl
                have hl8 : s8.1 = [] := by
                  rcases hl : s8.1 with _ | ⟨a, r⟩
                  · rfl
                  · exact absurd (.inr (by rw [hl]; simp)) hbad
                obtain rfl : n7 = 0 := by rw [HN8.out, hl8]; rfl
                have HEN := Lib.hid (And.intro hb hl8)
                rw [hb] at r1
                clear hb hl8 hbad
                go_wp2_with fail
                (try simp only [Exit.inBlock, Exit.then])
                have z0 := HX2.out.set_ 0 (Value.int .i64 T)
                have z1 := z0.set_ 1 (Value.slice kA kn kc)
                have z2 := z1.set_ 2 (Value.slice gA gn gc)
                have z3 := z2.set_ 3 (Value.slice iA im ic)
                have z4 := z3.set_ 4 (Value.slice cA cn cc)
                have z5 := z4.set_ 5 (Value.slice mA mn mc)
                have hK0 := ((((((((Kx.refl (B := 0) (F := [80])).set HX2.out (Nat.zero_le _) (by simp) 0 (Value.int .i64 T)).set z0 (Nat.zero_le _) (by simp) 1 (Value.slice kA kn kc)).set z1 (Nat.zero_le _) (by simp) 2 (Value.slice gA gn gc)).set z2 (Nat.zero_le _) (by simp) 3 (Value.slice iA im ic)).set z3 (Nat.zero_le _) (by simp) 4 (Value.slice cA cn cc)).set z4 (Nat.zero_le _) (by simp) 5 (Value.slice mA mn mc)).set z5 (Nat.zero_le _) (by simp) 6 (Value.slice eA en ec))
                have hoc := own_cap2 (hK0.own HP0.out (by decide))
                have hom := own_cap2 (hK0.own HP1.out.1 (by decide))
                have hoe := own_cap2 (hK0.own HOf2.out (by decide))
                have lc : cn = cts.length := by rw [HL3.out.1, rep_len]
                have lm : mn = ml.length := by have h := congrArg List.length HP1.out.2.1; rw [List.length_map] at h; rw [h, HL5.out.1, rep_len]
                have le : en = evs.length := by rw [HL7.out.1, rep_len]
                refine bodyPost_ret (v := .tuple #[.agg #[.int .i64 T, .slice kA kn kc, .slice gA gn gc, .slice iA im ic, .slice cA cn cc, .slice mA mn mc, .slice eA en ec], .int .i64 0]) ?_ rfl ⟨.inl ⟨by rw [HST.out]; exact HEN.out.1, by rw [HST.out]; exact HEN.out.2, ⟨T, ⟨kA, kn, kc, ks, gA, gn, gc, gens, iA, im, ic, its⟩, cA, cn, cc, cts, mA, mn, mc, ml, eA, en, ec, evs⟩, rfl, Lib.hid ⟨⟨HY.out.keep hK0 (by decide) (by decide) (by decide) (by decide) (by decide), ⟨RdY.of_own (hK0.own HP0.out (by decide)), lc, hoc.1, hoc.2, ?_⟩, ⟨RdY.of_own (hK0.own HP1.out.1 (by decide)), lm, hom.1, hom.2, fun z hz => (HP1.out.2.2 z hz).keep hK0 (by decide)⟩, ⟨RdY.of_own (hK0.own HOf2.out (by decide)), le, hoe.1, hoe.2, ?_⟩⟩, ?_⟩⟩, Fq.below (((((((HQ0.out.set (.inr (Nat.le_refl _)) 0 _).set (.inr (Nat.le_refl _)) 1 _).set (.inr (Nat.le_refl _)) 2 _).set (.inr (Nat.le_refl _)) 3 _).set (.inr (Nat.le_refl _)) 4 _).set (.inr (Nat.le_refl _)) 5 _).set (.inr (Nat.le_refl _)) 6 _) (fun k hk => by have e := List.mem_singleton.1 hk; omega) (Nat.le_refl _)⟩
                · rw [results_c2 rfl]
                  go_simp
                · rw [HL3.out.1]
                  exact rep_ok rCt (fun x => x.length = 10) (fun s => rep_len rN 10 s) _ _
                · rw [HL7.out.1]
                  exact rep_ok rEv (fun x => x.length = 4) (fun s => rep_len rN 4 s) _ _
                · rw [HST.out]
                  unfold Sm.p
                  rw [HYP.out, HP1.out.2.1]
end Go.Proofs.Ytnidcmhfbkdioaa
