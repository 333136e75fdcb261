/-
  The contract of game.reader's world, whatever is left. Conditions: what is left can be read.
-/
import Derived.Test.YtnidcmhfbkdioaaAb
namespace Go.Proofs.Ytnidcmhfbkdioaa
open Go.RowKit
set_option maxRecDepth 100000

set_option maxHeartbeats 8000000 in
theorem jworld_any (g B : Nat) (s : RS) (w : World) (hst : RJ w B g s) (hB : B ≤ g) (hx : s.1.length ≤ 1000000000) :
    Calls Try.prog 191 #[.pointer (some ⟨g, 0, none⟩)] w fun e w' => ∃ y : Wd, e = .returned y.v ∧ Hid (WdY w' 0 y ∧ y.p = (rWd s).1) ∧ RJ w' B g (rWd s).2 ∧ Fq [g] w w' := by
  obtain ⟨iK, hiK, hzK0, hzK1, hzK2⟩ := info_parts T.infoKd
  obtain ⟨iF, hiF, hzF0, hzF1, hzF2⟩ := info_parts T.infoFd
  obtain ⟨iI, hiI, hzI0, hzI1, hzI2⟩ := info_parts T.infoIt
  obtain ⟨iC, hiC, hzC0, hzC1, hzC2⟩ := info_parts T.infoCm
  obtain ⟨W0, hW0⟩ : ∃ W0, W0 = (w.alloc (.cells #[.slice none 0 0, .slice none 0 0, .slice none 0 0] 52)).alloc (.cells #[.slice none 0 0, .slice none 0 0, .slice none 0 0] 52) := ⟨_, rfl⟩
  have hb0 : Below w.heap.size w W0 := by rw [hW0]; exact Below.al (Below.al (Below.refl _ _) _) _
  have HB0 := Lib.hid hb0
  have hs0 : W0.heap.size = w.heap.size + 2 := by rw [hW0]; simp
  have HSZ := Lib.hid hs0
  have HX2 : Hid (Bk W0 w.heap.size 52 #[.slice none 0 0, .slice none 0 0, .slice none 0 0]) := Lib.hid (by rw [hW0]; exact (Bk.new _ _ _).alloc _)
  have HX3 : Hid (Bk W0 (w.heap.size + 1) 52 #[.slice none 0 0, .slice none 0 0, .slice none 0 0]) := Lib.hid (by rw [hW0]; exact Bk.two _ _ _ _)
  have hgl := hst.lt
  have HR0 := Lib.hid (hst.below hb0 (by omega))
  have hM := rM_le s
  have HWD : Hid (rWd s = (⟨(rep rKd (rM s).1 (rM s).2).1, (rL (rep rKd (rM s).1 (rM s).2).2).1, (rIs (rL (rep rKd (rM s).1 (rM s).2).2).2).1⟩, (rIs (rL (rep rKd (rM s).1 (rM s).2).2).2).2)) := Lib.hid rfl
  have HM := Lib.hid (jmany_any g B s W0 HR0.out hB)
  obtain ⟨n, hn⟩ : ∃ n, n = (rM s).1 := ⟨_, rfl⟩
  obtain ⟨s0, hs0'⟩ : ∃ s0, s0 = (rM s).2 := ⟨_, rfl⟩
  rw [← hn, ← hs0'] at hM HM HWD
  have hs9 : s0.1.length ≤ 1000000000 := by omega
  have hn9 : n ≤ 1000000000 := by omega
  clear hst hb0 hs0 hM hn hs0' HR0 hx
  go_enter Try.func191, Try.ntmps191
  go_upto_region 2 with fail
  rw [← hW0]
  clear hW0
  go_wp2_with fail
  refine HM.out.mono ?_
  clear HM
  rintro e w1 ⟨rfl, hr1, hg1⟩
  have HR1 := Lib.hid hr1
  have HQ1 : Hid (Fq [g] w w1) := Lib.hid ((Fq.of_below HB0.out).gb hg1)
  have HY2 : Hid (Bk w1 w.heap.size 52 #[.slice none 0 0, .slice none 0 0, .slice none 0 0]) := Lib.hid (HX2.out.grown hg1 (fun e => by injection e with e; omega))
  have HY3 : Hid (Bk w1 (w.heap.size + 1) 52 #[.slice none 0 0, .slice none 0 0, .slice none 0 0]) := Lib.hid (HX3.out.grown hg1 (fun e => by injection e with e; omega))
  clear hr1 hg1 HX2 HX3
  go_wp2_with fail
  go_loopw [9] (fun iv wr => ∃ (i kc : Nat) (KA : Option Addr) (l1 : List Kd), i ≤ n ∧ iv = .int .i64 i ∧ Hid (Bk wr (w.heap.size + 1) 52 #[.slice KA i kc, .slice none 0 0, .slice none 0 0]) ∧ Hid (Bk wr w.heap.size 52 #[.slice none 0 0, .slice none 0 0, .slice none 0 0]) ∧ Hid (wr.ownsRow (w.heap.size + 2) 63 2 (.slice KA i kc) i (kdCs l1) ∧ l1.map Kd.p = (rep rKd i s0).1 ∧ ∀ z ∈ l1, KdY wr 0 z) ∧ Hid (RJ wr B g (rep rKd i s0).2) ∧ Hid (Fq [g] w wr)) (fun iv _ => n - (intOf iv).toNat)
  case atStart => exact ⟨0, 0, none, [], Nat.zero_le _, rfl, HY3, HY2, Lib.hid ⟨World.ownsRow_nil _ _ _ _, rfl, fun z hz => by cases hz⟩, HR1, HQ1⟩
  case round =>
    clear HY2 HY3 HR1 HQ1
    obtain ⟨i, kc, KA, l1, hi, rfl, HY3, HY2, HL, HR, HQ⟩ := hrel
    obtain ⟨wo, rfl⟩ : ∃ z, z = wr := ⟨_, rfl⟩
    have hwo2 : w.heap.size + 1 < wo.heap.size := HY3.out.lt
    by_cases hlt : i < n
    · obtain ⟨sI, hsI⟩ : ∃ sI, sI = (rep rKd i s0).2 := ⟨_, rfl⟩
      have hI9 : sI.1.length ≤ 1000000000 := by rw [hsI]; exact Nat.le_trans (rep_le rKd rKd_le i s0) hs9
      have HSI : Hid (rep rKd (i + 1) s0 = ((rep rKd i s0).1 ++ [(rKd sI).1], (rKd sI).2)) := Lib.hid (by rw [hsI]; rfl)
      rw [← hsI] at HR
      clear hsI
      have HKF : Hid (rKd sI = (((rT sI).1, (rep rFd (rM (rT sI).2).1 (rM (rT sI).2).2).1), (rep rFd (rM (rT sI).2).1 (rM (rT sI).2).2).2)) := Lib.hid rfl
      have HT := Lib.hid (jtext_any g B sI wo HR.out hB hI9)
      have ht9 := rT_le sI
      obtain ⟨nm, hnm⟩ : ∃ nm, nm = (rT sI).1 := ⟨_, rfl⟩
      obtain ⟨sa, hsa⟩ : ∃ sa, sa = (rT sI).2 := ⟨_, rfl⟩
      rw [← hnm, ← hsa] at HT
      rw [← hsa] at ht9
      rw [← hnm, ← hsa] at HKF
      clear hnm hsa
      go_wp2_with fail
      refine HT.out.mono ?_
      clear HT
      rintro e w2 ⟨rfl, hr2, hg2⟩
      have HQ2 : Hid (Fq [g] wo w2) := Lib.hid (Fq.refl.gb hg2)
      obtain ⟨w3, hw3⟩ : ∃ w3, w3 = w2.alloc (.cells #[.string nm, .slice none 0 0] 63) := ⟨_, rfl⟩
      have hb3 : Below w2.heap.size w2 w3 := by rw [hw3]; exact (Below.refl _ _).alloc (Nat.le_refl _) _
      have HQ3 : Hid (Fq [g] wo w3) := Lib.hid (HQ2.out.trans (Fq.of_below hb3) (SubF.refl _ _))
      have HK3 : Hid (Bk w3 w2.heap.size 63 #[.string nm, .slice none 0 0]) := Lib.hid (by rw [hw3]; exact Bk.new _ _ _)
      have hw2 : wo.heap.size ≤ w2.heap.size := HQ2.out.size
      have hr3 := hr2.below hb3 (by omega)
      have HM := Lib.hid (jmany_any g B sa w3 hr3 hB)
      have hm9 := rM_le sa
      obtain ⟨nf, hnf⟩ : ∃ nf, nf = (rM sa).1 := ⟨_, rfl⟩
      obtain ⟨sb, hsb⟩ : ∃ sb, sb = (rM sa).2 := ⟨_, rfl⟩
      rw [← hnf, ← hsb] at HM HKF hm9
      have hf9 : nf ≤ 1000000000 := by omega
      have hb9 : sb.1.length ≤ 1000000000 := by omega
      clear hnf hsb hm9 ht9 hI9
      clear hr2 hg2 hb3 hr3 HQ2
      go_wp2_with fail
      rw [← hw3]
      clear hw3
      refine HM.out.mono ?_
      clear HM
      rintro e w4 ⟨rfl, hr4, hg4⟩
      have HR4 := Lib.hid hr4
      have HQ4 : Hid (Fq [g] wo w4) := Lib.hid (HQ3.out.gb hg4)
      have HK4 : Hid (Bk w4 w2.heap.size 63 #[.string nm, .slice none 0 0]) := Lib.hid (HK3.out.grown hg4 (fun e => by injection e with e; omega))
      clear hr4 hg4 HK3 HQ3
      obtain ⟨hk, hhk⟩ : ∃ hk, hk = w2.heap.size := ⟨_, rfl⟩
      rw [← hhk] at HK4 hw2 ⊢
      clear hhk
      go_wp2_with fail
      have hwk : wo.heap.size ≤ hk := by omega
      go_loopw [16] (fun jv wx => ∃ (j fc : Nat) (FA : Option Addr), j ≤ nf ∧ jv = .int .i64 j ∧ Hid (Bk wx hk 63 #[.string nm, .slice FA j fc]) ∧ Hid (wx.ownsRow (hk + 1) 66 3 (.slice FA j fc) j (fdCs (rep rFd j sb).1)) ∧ Hid (RJ wx B g (rep rFd j sb).2) ∧ Hid (Fq [g] wo wx)) (fun jv _ => nf - (intOf jv).toNat)
      case atStart => exact ⟨0, 0, none, Nat.zero_le _, rfl, HK4, Lib.hid (World.ownsRow_nil _ _ _ _), HR4, HQ4⟩
      case round =>
        clear HK4 HR4 HQ4
        obtain ⟨j, fc, FA, hj, rfl, HKx, HO, HRx, HQx⟩ := hrel
        obtain ⟨wx, rfl⟩ : ∃ z, z = wr := ⟨_, rfl⟩
        have hkx : hk < wx.heap.size := HKx.out.lt
        by_cases hjl : j < nf
        · obtain ⟨sJ, hsJ⟩ : ∃ sJ, sJ = (rep rFd j sb).2 := ⟨_, rfl⟩
          have hJ9 : sJ.1.length ≤ 1000000000 := by rw [hsJ]; exact Nat.le_trans (rep_le rFd rFd_le j sb) hb9
          have HSJ : Hid (rep rFd (j + 1) sb = ((rep rFd j sb).1 ++ [(rFd sJ).1], (rFd sJ).2)) := Lib.hid (by rw [hsJ]; rfl)
          obtain ⟨fl, hfl⟩ : ∃ fl, fl = (rep rFd j sb).1 := ⟨_, rfl⟩
          rw [← hsJ] at HRx
          rw [← hfl] at HSJ HO
          clear hsJ hfl
          have HFF : Hid (rFd sJ = (⟨(rT sJ).1, (rN (rT sJ).2).1, (rN (rN (rT sJ).2).2).1⟩, (rN (rN (rT sJ).2).2).2)) := Lib.hid rfl
          have HT := Lib.hid (jtext_any g B sJ wx HRx.out hB hJ9)
          obtain ⟨fnm, hfnm⟩ : ∃ fnm, fnm = (rT sJ).1 := ⟨_, rfl⟩
          obtain ⟨sc, hsc⟩ : ∃ sc, sc = (rT sJ).2 := ⟨_, rfl⟩
          rw [← hfnm, ← hsc] at HT HFF
          obtain ⟨bits, hbits⟩ : ∃ bits, bits = (rN sc).1 := ⟨_, rfl⟩
          obtain ⟨sd, hsd⟩ : ∃ sd, sd = (rN sc).2 := ⟨_, rfl⟩
          rw [← hbits, ← hsd] at HFF
          obtain ⟨low, hlow⟩ : ∃ low, low = (rN sd).1 := ⟨_, rfl⟩
          obtain ⟨se, hse⟩ : ∃ se, se = (rN sd).2 := ⟨_, rfl⟩
          rw [← hlow, ← hse] at HFF
          have HDE := Lib.hid (And.intro hbits (And.intro hsd (And.intro hlow hse)))
          clear hfnm hsc hbits hsd hlow hse HRx hJ9
          go_wp2_with fail
          refine HT.out.mono ?_
          clear HT
          rintro e w5 ⟨rfl, hr5, hg5⟩
          have hw5 : wx.heap.size ≤ w5.heap.size := hg5.size
          have hk5 : Bk w5 hk 63 #[.string nm, .slice FA j fc] := HKx.out.grown hg5 (fun e => by injection e with e; omega)
          have ho5 : w5.ownsRow (hk + 1) 66 3 (.slice FA j fc) j (fdCs fl) := own_keepB HO.out fun q hq => hg5.block q (HO.out.lt q hq).2 (fun e => by injection e with e; have := (HO.out.lt q hq).1; omega)
          obtain ⟨w6, hw6⟩ : ∃ w6, w6 = w5.alloc (.cells #[.string fnm, .int .i64 0, .int .i64 0] 66) := ⟨_, rfl⟩
          have hb6 : Below w5.heap.size w5 w6 := by rw [hw6]; exact (Below.refl _ _).alloc (Nat.le_refl _) _
          have HK6 : Hid (Bk w6 hk 63 #[.string nm, .slice FA j fc]) := Lib.hid (hk5.below hb6 hk5.lt)
          have HO6 : Hid (w6.ownsRow (hk + 1) 66 3 (.slice FA j fc) j (fdCs fl)) := Lib.hid (own_keepU ho5 hb6)
          have HQ6 : Hid (Fq [g] wo w6) := Lib.hid ((HQx.out.gb hg5).trans (Fq.of_below hb6) (SubF.refl _ _))
          obtain ⟨hf, hhf⟩ : ∃ hf, hf = w5.heap.size := ⟨_, rfl⟩
          have HF6 : Hid (Bk w6 hf 66 #[.string fnm, .int .i64 0, .int .i64 0]) := Lib.hid (by rw [hw6, hhf]; exact Bk.new _ _ _)
          have HOF : Hid ((Value.slice FA j fc).ownBlock ≠ some hf) := Lib.hid fun e => by have := (ho5.lt hf e).2; omega
          have HN1 := Lib.hid (by have := jnext_any g B sc w6 (hr5.below hb6 (by omega)) hB; rw [← HDE.out.1, ← HDE.out.2.1] at this; exact this)
          have hkf : hk < hf := by omega
          clear hr5 hg5 hk5 ho5 hb6 HKx HO HQx
          go_wp2_with fail
          rw [← hw6, ← hhf]
          clear hw6 hhf hw5
          refine HN1.out.mono ?_
          clear HN1
          rintro e w7 ⟨rfl, hr7, hg7⟩
          have hf7 : Bk w7 hf 66 #[.string fnm, .int .i64 0, .int .i64 0] := HF6.out.grown hg7 (fun e => by injection e with e; omega)
          have hk7 : Bk w7 hk 63 #[.string nm, .slice FA j fc] := HK6.out.grown hg7 (fun e => by injection e with e; omega)
          have ho7 : w7.ownsRow (hk + 1) 66 3 (.slice FA j fc) j (fdCs fl) := own_keepB HO6.out fun q hq => hg7.block q (HO6.out.lt q hq).2 (fun e => by injection e with e; have := (HO6.out.lt q hq).1; omega)
          have hq7 : Fq [g] wo w7 := HQ6.out.gb hg7
          obtain ⟨w8, hw8⟩ : ∃ w8, w8 = w7.setCell ⟨hf, 1, none⟩ (.int .i64 bits) := ⟨_, rfl⟩
          have HF8 : Hid (Bk w8 hf 66 #[.string fnm, .int .i64 bits, .int .i64 0]) := Lib.hid (by rw [hw8]; exact hf7.set_ 1 _)
          have HK8 : Hid (Bk w8 hk 63 #[.string nm, .slice FA j fc]) := Lib.hid (by rw [hw8]; exact hk7.far (by show hk ≠ hf; omega) _)
          have HO8 : Hid (w8.ownsRow (hk + 1) 66 3 (.slice FA j fc) j (fdCs fl)) := Lib.hid (by rw [hw8]; exact ownsRow_setCell_other ho7 (a := ⟨hf, 1, none⟩) HOF.out _)
          have HQ8 : Hid (Fq [g] wo w8) := Lib.hid (by rw [hw8]; exact hq7.set (.inr (by omega)) 1 _)
          have hr8 : RJ w8 B g sd := by
            rw [hw8]
            exact hr7.kx (B' := B) (F := [66]) ((Kx.refl).set hf7 (by omega) (by simp) 1 _) (Nat.le_refl _) (hr7.lo hB) (by decide)
          have HN2 := Lib.hid (by have := jnext_any g B sd w8 hr8 hB; rw [← HDE.out.2.2.1, ← HDE.out.2.2.2] at this; exact this)
          have fz : w7.frozen? ⟨hf, 1, none⟩ = false := hf7.frozen 1
          have cz : w7.cell? ⟨hf, 1, none⟩ = some (.int .i64 0) := hf7.cell 1
          clear hf7 hk7 ho7 hq7 hr7 hg7 hr8 HF6 HK6 HO6 HQ6
          go_wp2_with fail
          rw [← hw8]
          clear hw8 fz cz
          refine HN2.out.mono ?_
          clear HN2
          rintro e w9 ⟨rfl, hr9, hg9⟩
          have hf9 : Bk w9 hf 66 #[.string fnm, .int .i64 bits, .int .i64 0] := HF8.out.grown hg9 (fun e => by injection e with e; omega)
          have hk9 : Bk w9 hk 63 #[.string nm, .slice FA j fc] := HK8.out.grown hg9 (fun e => by injection e with e; omega)
          have ho9 : w9.ownsRow (hk + 1) 66 3 (.slice FA j fc) j (fdCs fl) := own_keepB HO8.out fun q hq => hg9.block q (HO8.out.lt q hq).2 (fun e => by injection e with e; have := (HO8.out.lt q hq).1; omega)
          have hq9 : Fq [g] wo w9 := HQ8.out.gb hg9
          obtain ⟨wA, hwA⟩ : ∃ wA, wA = w9.setCell ⟨hf, 2, none⟩ (.int .i64 low) := ⟨_, rfl⟩
          have HFA : Hid (Bk wA hf 66 #[.string fnm, .int .i64 bits, .int .i64 low]) := Lib.hid (by rw [hwA]; exact hf9.set_ 2 _)
          have HKA : Hid (Bk wA hk 63 #[.string nm, .slice FA j fc]) := Lib.hid (by rw [hwA]; exact hk9.far (by show hk ≠ hf; omega) _)
          have HOA : Hid (wA.ownsRow (hk + 1) 66 3 (.slice FA j fc) j (fdCs fl)) := Lib.hid (by rw [hwA]; exact ownsRow_setCell_other ho9 (a := ⟨hf, 2, none⟩) HOF.out _)
          have HQA : Hid (Fq [g] wo wA) := Lib.hid (by rw [hwA]; exact hq9.set (.inr (by omega)) 2 _)
          have HRA : Hid (RJ wA B g se) := Lib.hid (by
            rw [hwA]
            exact hr9.kx (B' := B) (F := [66]) ((Kx.refl).set hf9 (by omega) (by simp) 2 _) (Nat.le_refl _) (hr9.lo hB) (by decide))
          have fz : w9.frozen? ⟨hf, 2, none⟩ = false := hf9.frozen 2
          have cz : w9.cell? ⟨hf, 2, none⟩ = some (.int .i64 0) := hf9.cell 2
          clear hf9 hk9 ho9 hq9 hr9 hg9 HF8 HK8 HO8 HQ8
          go_upto_region 10 with fail
          rw [← hwA]
          clear hwA fz cz
          have e0 : wA.cell? ⟨hf, 0, none⟩ = some (.string fnm) := HFA.out.cell 0
          have e1 : wA.cell? ⟨hf, 1, none⟩ = some (.int .i64 bits) := HFA.out.cell 1
          have e2 : wA.cell? ⟨hf, 2, none⟩ = some (.int .i64 low) := HFA.out.cell 2
          have e3 : wA.cell? ⟨hk, 1, none⟩ = some (.slice FA j fc) := HKA.out.cell 1
          have hkA : hk < wA.heap.size := HKA.out.lt
          go_wp2_with
            (at_builtin
             go_must (refine wpList_append_one _ rfl (.tmp 28) (.tmp 30) _ rfl (hk + 1) 66 iF (.agg #[.string ByteArray.empty, .int .i64 0, .int .i64 0]) 3 32 Try.underlying61 hiF hzF0 hzF1 hzF2 rfl (by decide) (.slice FA j fc) j _ rfl (HOA.out.alloc _) wA.heap.size 1 66 #[.string fnm, .int .i64 bits, .int .i64 low] rfl (Bk.new _ _ _) rfl ?c1 (j + 1) rfl ?c2 ?c3 ?c4 ?_)
             case c1 => simp [Value.oneCell']
             case c2 => unfold maxLen; omega
             case c3 => omega
             case c4 => simp; omega
             intro gB cB wB hownB hgB hatB
             have hkB := (HKA.out.alloc (.cells #[.string fnm, .int .i64 bits, .int .i64 low] 66)).grown hgB (fun e => own_ne HOA.out HKA.out (by decide) e.symm)
             have cB1 : wB.cell? ⟨hk, 1, none⟩ = some (.slice FA j fc) := hkB.cell 1
             have fB1 : wB.frozen? ⟨hk, 1, none⟩ = false := hkB.frozen 1)
          have hkx : Kx B [66, 63] wA (wB.setCell ⟨hk, 1, none⟩ (.slice (some ⟨gB, 0, none⟩) (j + 1) cB)) := (((Kx.refl (B := B)).alloc _).grown (World.ownsRow.alloc HOA.out _) hgB (by omega) (by simp)).set hkB (by omega) (by simp) 1 _
          have HKn : Hid (Bk (wB.setCell ⟨hk, 1, none⟩ (.slice (some ⟨gB, 0, none⟩) (j + 1) cB)) hk 63 #[.string nm, .slice (some ⟨gB, 0, none⟩) (j + 1) cB]) := Lib.hid (hkB.set_ 1 _)
          have HOn : Hid ((wB.setCell ⟨hk, 1, none⟩ (.slice (some ⟨gB, 0, none⟩) (j + 1) cB)).ownsRow (hk + 1) 66 3 (.slice (some ⟨gB, 0, none⟩) (j + 1) cB) (j + 1) (fdCs (rep rFd (j + 1) sb).1)) := Lib.hid (by
            have e : fdCs (rep rFd (j + 1) sb).1 = fdCs fl ++ [.string fnm, .int .i64 bits, .int .i64 low] := by
              rw [HSJ.out, HFF.out]; simp [fdCs, Fd.cs]
            rw [e]
            exact own_farU hownB hkB (by decide) 1 _)
          have HRn : Hid (RJ (wB.setCell ⟨hk, 1, none⟩ (.slice (some ⟨gB, 0, none⟩) (j + 1) cB)) B g (rep rFd (j + 1) sb).2) := Lib.hid (by rw [HSJ.out, HFF.out]; exact HRA.out.kx hkx (Nat.le_refl _) (HRA.out.lo hB) (by decide))
          have HQn : Hid (Fq [g] wo (wB.setCell ⟨hk, 1, none⟩ (.slice (some ⟨gB, 0, none⟩) (j + 1) cB))) := Lib.hid (((HQA.out.alloc _).grown hgB (fun q hq => .inr (by have := (HOA.out.lt q hq).1; omega))).set (.inr (by omega)) 1 _)
          clear hkx hownB hgB hatB hkB cB1 fB1 e0 e1 e2 e3 HFA HKA HOA HQA HRA
          go_wp2_with fail
          go_roundw
          case rel => exact ⟨j + 1, cB, _, by omega, by go_num, HKn, HOn, HRn, HQn⟩
          case measure => simp [intOf]; omega
        · obtain rfl : j = nf := by omega
          have hkf := Kx.fqJ (B' := B) HQx.out HR.out hB
          have HYx : Hid (Bk wx (w.heap.size + 1) 52 #[.slice KA i kc, .slice none 0 0, .slice none 0 0]) := Lib.hid (hkf.bk HY3.out (by decide))
          have HYx2 : Hid (Bk wx w.heap.size 52 #[.slice none 0 0, .slice none 0 0, .slice none 0 0]) := Lib.hid (hkf.bk HY2.out (by decide))
          have HLx : Hid (wx.ownsRow (w.heap.size + 2) 63 2 (.slice KA i kc) i (kdCs l1) ∧ ∀ z ∈ l1, KdY wx 0 z) := Lib.hid ⟨hkf.own HL.out.1 (by decide), fun z hz => (HL.out.2.2 z hz).keep (Kx.fqJ (B' := 0) HQx.out HR.out (Nat.zero_le _)) (by decide)⟩
          obtain ⟨fds, hfds⟩ : ∃ fds, fds = (rep rFd j sb).1 := ⟨_, rfl⟩
          have HKV : Hid (rKd sI = ((nm, fds), (rep rFd j sb).2)) := Lib.hid (by rw [hfds]; exact HKF.out)
          have HNF : Hid (j = fds.length) := Lib.hid (by rw [hfds]; exact (rep_len rFd j sb).symm)
          rw [← hfds] at HO
          clear hfds
          have HO2 := HO
          have HRy := HRx
          have e0 : wx.cell? ⟨w.heap.size + 1, 0, none⟩ = some (.slice KA i kc) := HYx.out.cell 0
          have e1 : wx.cell? ⟨hk, 0, none⟩ = some (.string nm) := HKx.out.cell 0
          have e2 : wx.cell? ⟨hk, 1, none⟩ = some (.slice FA j fc) := HKx.out.cell 1
          have hxs : w.heap.size + 1 < wx.heap.size := HYx.out.lt
          clear hkf HO HRx HKx
          go_wp2_with
            (at_builtin
             go_must (refine wpList_append_one _ rfl (.tmp 35) (.tmp 37) _ rfl (w.heap.size + 2) 63 iK (.agg #[.string ByteArray.empty, .slice none 0 0]) 2 40 Try.underlying22 hiK hzK0 hzK1 hzK2 rfl (by decide) (.slice KA i kc) i _ rfl (HLx.out.1.alloc _) wx.heap.size 1 63 #[.string nm, .slice FA j fc] rfl (Bk.new _ _ _) rfl ?c1 (i + 1) rfl ?c2 ?c3 ?c4 ?_)
             case c1 => simp [Value.oneCell']
             case c2 => unfold maxLen; omega
             case c3 => omega
             case c4 => simp; omega
             intro gB cB wB hownB hgB hatB
             have hkB := (HYx.out.alloc (.cells #[.string nm, .slice FA j fc] 63)).grown hgB (fun e => own_ne HLx.out.1 HYx.out (by decide) e.symm)
             have hkB2 := (HYx2.out.alloc (.cells #[.string nm, .slice FA j fc] 63)).grown hgB (fun e => own_ne HLx.out.1 HYx2.out (by decide) e.symm)
             have cB1 : wB.cell? ⟨w.heap.size + 1, 0, none⟩ = some (.slice KA i kc) := hkB.cell 0
             have fB1 : wB.frozen? ⟨w.heap.size + 1, 0, none⟩ = false := hkB.frozen 0)
          obtain ⟨wN, hwN⟩ : ∃ wN, wN = wB.setCell ⟨w.heap.size + 1, 0, none⟩ (.slice (some ⟨gB, 0, none⟩) (i + 1) cB) := ⟨_, rfl⟩
          have hkx : Kx B [63, 52] wx wN := by rw [hwN]; exact (((Kx.refl (B := B)).alloc _).grown (World.ownsRow.alloc HLx.out.1 _) hgB (by omega) (by simp)).set hkB (by omega) (by simp) 0 _
          have hkx0 : Kx 0 [63, 52] wx wN := hkx.mono (Nat.zero_le _) (fun _ h => h)
          have HY3n : Hid (Bk wN (w.heap.size + 1) 52 #[.slice (some ⟨gB, 0, none⟩) (i + 1) cB, .slice none 0 0, .slice none 0 0]) := Lib.hid (by rw [hwN]; exact hkB.set_ 0 _)
          have HY2n : Hid (Bk wN w.heap.size 52 #[.slice none 0 0, .slice none 0 0, .slice none 0 0]) := Lib.hid (by rw [hwN]; exact hkB2.far (by show w.heap.size ≠ w.heap.size + 1; omega) _)
          have hz : KdY wN 0 ⟨nm, FA, j, fc, fds⟩ := by
            have h1 := hkx0.own HO2.out (by decide)
            have h2 := own_cap2 h1
            exact ⟨RdY.of_own h1, HNF.out, h2.1, h2.2⟩
          have HLn : Hid (wN.ownsRow (w.heap.size + 2) 63 2 (.slice (some ⟨gB, 0, none⟩) (i + 1) cB) (i + 1) (kdCs (l1 ++ [(⟨nm, FA, j, fc, fds⟩ : Kd)])) ∧ (l1 ++ [(⟨nm, FA, j, fc, fds⟩ : Kd)]).map Kd.p = (rep rKd (i + 1) s0).1 ∧ ∀ z ∈ l1 ++ [(⟨nm, FA, j, fc, fds⟩ : Kd)], KdY wN 0 z) := Lib.hid (by
            refine ⟨?_, ?_, ?_⟩
            · rw [hwN]
              have e : kdCs (l1 ++ [(⟨nm, FA, j, fc, fds⟩ : Kd)]) = kdCs l1 ++ [.string nm, .slice FA j fc] := by simp [kdCs, Kd.cs]
              rw [e]
              exact own_farU hownB hkB (by decide) 0 _
            · rw [List.map_append, HL.out.2.1, HSI.out, HKV.out]; rfl
            · intro z hz1
              rcases List.mem_append.1 hz1 with h | h
              · exact (HLx.out.2 z h).keep hkx0 (by decide)
              · have := List.mem_singleton.1 h
                subst this
                exact hz)
          have HRn : Hid (RJ wN B g (rep rKd (i + 1) s0).2) := Lib.hid (by rw [HSI.out, HKV.out]; exact HRy.out.kx hkx (Nat.le_refl _) (HRy.out.lo hB) (by decide))
          have HQn : Hid (Fq [g] w wN) := Lib.hid (by
            rw [hwN]
            exact ((((HQ.out.trans HQx.out (SubF.refl _ _)).alloc _).grown hgB (fun q hq => .inr (by have := (HLx.out.1.lt q hq).1; omega))).set (.inr (by omega)) 0 _))
          clear hkx hkx0 hz hownB hgB hatB hkB2
          go_wp2_with fail
          rw [← hwN]
          clear hwN hkB cB1 fB1 e0 e1 e2
          go_roundw
          case rel => exact ⟨i + 1, cB, _, _, by omega, by go_num, HY3n, HY2n, HLn, HRn, HQn⟩
          case measure => simp [intOf]; omega
    · obtain rfl : i = n := by omega
      obtain ⟨sg, hsg⟩ : ∃ sg, sg = (rep rKd i s0).2 := ⟨_, rfl⟩
      have hg9 : sg.1.length ≤ 1000000000 := by rw [hsg]; exact Nat.le_trans (rep_le rKd rKd_le i s0) hs9
      obtain ⟨pks, hpks⟩ : ∃ pks, pks = (rep rKd i s0).1 := ⟨_, rfl⟩
      rw [← hsg] at HR HWD
      rw [← hpks] at HL HWD
      have HPK : Hid (pks.length = i) := Lib.hid (by rw [hpks]; exact rep_len rKd i s0)
      clear hsg hpks
      have HT := Lib.hid (jlist_any g B sg wo HR.out hB hg9)
      have hl9 := rL_le sg
      obtain ⟨gens, hgens⟩ : ∃ gens, gens = (rL sg).1 := ⟨_, rfl⟩
      obtain ⟨sh, hsh⟩ : ∃ sh, sh = (rL sg).2 := ⟨_, rfl⟩
      rw [← hgens, ← hsh] at HT HWD hl9
      have HGW : Hid (∀ z ∈ gens, (Lit.int .i64 z).wf = true) := Lib.hid (by rw [hgens]; exact (rL_w sg HR.out.wf).1)
      have HKS : Hid (l1.map Kd.p = pks) := Lib.hid HL.out.2.1
      obtain ⟨gn, hgn⟩ : ∃ gn, gn = gens.length := ⟨_, rfl⟩
      rw [← hgn] at HT hl9
      have HGN := Lib.hid hgn
      have hgn9 : gn ≤ 1000000000 := by omega
      have hh9 : sh.1.length ≤ 1000000000 := by omega
      clear hgn hgens hsh hl9 hg9
      go_wp2_with fail
      refine HT.out.mono ?_
      clear HT
      rintro e w1 ⟨GA, gc, rfl, hown1, hr1, hg1⟩
      have hk1 : Bk w1 (w.heap.size + 1) 52 #[.slice KA i kc, .slice none 0 0, .slice none 0 0] := HY3.out.grown hg1 (fun e => by injection e with e; omega)
      have hk2 : Bk w1 w.heap.size 52 #[.slice none 0 0, .slice none 0 0, .slice none 0 0] := HY2.out.grown hg1 (fun e => by injection e with e; omega)
      have hw1 : wo.heap.size ≤ w1.heap.size := hg1.size
      have hq1 : Fq [g] wo w1 := Fq.refl.gb hg1
      have hkf : Kx 0 [299] wo w1 := Kx.fqJ hq1 HR.out (Nat.zero_le _)
      obtain ⟨W2, hW2⟩ : ∃ W2, W2 = w1.setCell ⟨w.heap.size + 1, 1, none⟩ (.slice GA gn gc) := ⟨_, rfl⟩
      have hks0 : Kx 0 [52] w1 W2 := by rw [hW2]; exact (Kx.refl).set hk1 (Nat.zero_le _) (by simp) 1 _
      have hksB : Kx B [52] w1 W2 := by rw [hW2]; exact (Kx.refl).set hk1 (by omega) (by simp) 1 _
      have HK3 : Hid (Bk W2 (w.heap.size + 1) 52 #[.slice KA i kc, .slice GA gn gc, .slice none 0 0]) := Lib.hid (by rw [hW2]; exact hk1.set_ 1 _)
      have HK2 : Hid (Bk W2 w.heap.size 52 #[.slice none 0 0, .slice none 0 0, .slice none 0 0]) := Lib.hid (by rw [hW2]; exact hk2.far (by show w.heap.size ≠ w.heap.size + 1; omega) _)
      have HKY : Hid (KsY W2 0 KA i kc l1) := Lib.hid (by
        have h1 := hks0.own (hkf.own HL.out.1 (by decide)) (by decide)
        have h2 := own_cap2 h1
        have h3 : l1.length = i := by have h4 := congrArg List.length HKS.out; rw [List.length_map] at h4; rw [h4]; exact HPK.out
        exact ⟨RdY.of_own h1, h3.symm, h2.1, h2.2, fun z hz => ((HL.out.2.2 z hz).keep hkf (by decide)).keep hks0 (by decide)⟩)
      have HGY : Hid (GsY W2 0 GA gn gc gens) := Lib.hid (by
        have h1 := hks0.own hown1 (by decide)
        have h2 := own_cap2 h1
        exact ⟨RdY.of_own h1, HGN.out, h2.1, h2.2, HGW.out⟩)
      have hr2 : RJ W2 B g sh := hr1.kx hksB (Nat.le_refl _) (hr1.lo hB) (by decide)
      have HQ2 : Hid (Fq [g] w W2) := Lib.hid (by rw [hW2]; exact (HQ.out.trans hq1 (SubF.refl _ _)).set (.inr (by omega)) 1 _)
      have HM := Lib.hid (jmany_any g B sh W2 hr2 hB)
      have hm9 := rM_le sh
      have HIS : Hid (rIs sh = rep rIt (rM sh).1 (rM sh).2) := Lib.hid rfl
      obtain ⟨N, hN⟩ : ∃ N, N = (rM sh).1 := ⟨_, rfl⟩
      obtain ⟨si, hsi⟩ : ∃ si, si = (rM sh).2 := ⟨_, rfl⟩
      rw [← hN, ← hsi] at HM HIS hm9
      have hN9 : N ≤ 1000000000 := by omega
      have hi9 : si.1.length ≤ 1000000000 := by omega
      have cz : w1.cell? ⟨w.heap.size + 1, 1, none⟩ = some (.slice none 0 0) := hk1.cell 1
      have fz : w1.frozen? ⟨w.heap.size + 1, 1, none⟩ = false := hk1.frozen 1
      have HRW := Lib.hid hr2
      clear hN hsi hm9 hh9 hr2 hr1 hg1 hk1 hk2 hq1 hkf hks0 hksB hown1 HL HY3 HY2
      go_wp2_with fail
      rw [← hW2]
      clear hW2 cz fz
      refine HM.out.mono ?_
      clear HM
      rintro e w3 ⟨rfl, hr3, hg3⟩
      have hq3 : Fq [g] W2 w3 := Fq.refl.gb hg3
      have hkf : Kx 0 [299] W2 w3 := Kx.fqJ hq3 HRW.out (Nat.zero_le _)
      have HK3' : Hid (Bk w3 (w.heap.size + 1) 52 #[.slice KA i kc, .slice GA gn gc, .slice none 0 0]) := Lib.hid (hkf.bk HK3.out (by decide))
      have HK2' : Hid (Bk w3 w.heap.size 52 #[.slice none 0 0, .slice none 0 0, .slice none 0 0]) := Lib.hid (hkf.bk HK2.out (by decide))
      have HKY' : Hid (KsY w3 0 KA i kc l1) := Lib.hid (HKY.out.keep hkf (by decide) (by decide))
      have HGY' : Hid (GsY w3 0 GA gn gc gens) := Lib.hid (HGY.out.keep hkf (by decide))
      have HR3 := Lib.hid hr3
      have HQ3 : Hid (Fq [g] w w3) := Lib.hid (HQ2.out.trans hq3 (SubF.refl _ _))
      clear hr3 hg3 hq3 hkf HK3 HK2 HKY HGY HRW HQ2 HR HQ
      go_wp2_with fail
      go_loopw [46] (fun iv wr => ∃ (k ic : Nat) (IA : Option Addr) (l3 : List It), k ≤ N ∧ iv = .int .i64 k ∧ Hid (Bk wr (w.heap.size + 1) 52 #[.slice KA i kc, .slice GA gn gc, .slice IA k ic]) ∧ Hid (Bk wr w.heap.size 52 #[.slice none 0 0, .slice none 0 0, .slice none 0 0]) ∧ Hid (KsY wr 0 KA i kc l1 ∧ GsY wr 0 GA gn gc gens) ∧ Hid (wr.ownsRow (w.heap.size + 2) 147 3 (.slice IA k ic) k (itCs l3) ∧ l3.map It.p = (rep rIt k si).1 ∧ ∀ z ∈ l3, ItY wr 0 z) ∧ Hid (RJ wr B g (rep rIt k si).2) ∧ Hid (Fq [g] w wr)) (fun iv _ => N - (intOf iv).toNat)
      case atStart => exact ⟨0, 0, none, [], Nat.zero_le _, rfl, HK3', HK2', Lib.hid ⟨HKY'.out, HGY'.out⟩, Lib.hid ⟨World.ownsRow_nil _ _ _ _, rfl, fun z hz => by cases hz⟩, HR3, HQ3⟩
      case round =>
        clear HK3' HK2' HKY' HGY' HR3 HQ3
        obtain ⟨k, ic, IA, l3, hk, rfl, HY3, HY2, HKG, HL, HR, HQ⟩ := hrel
        obtain ⟨wp, rfl⟩ : ∃ z, z = wr := ⟨_, rfl⟩
        have hwp2 : w.heap.size + 1 < wp.heap.size := HY3.out.lt
        by_cases hkl : k < N
        · obtain ⟨sK, hsK⟩ : ∃ sK, sK = (rep rIt k si).2 := ⟨_, rfl⟩
          have hK9 : sK.1.length ≤ 1000000000 := by rw [hsK]; exact Nat.le_trans (rep_le rIt rIt_le k si) hi9
          have HSK : Hid (rep rIt (k + 1) si = ((rep rIt k si).1 ++ [(rIt sK).1], (rIt sK).2)) := Lib.hid (by rw [hsK]; rfl)
          rw [← hsK] at HR
          clear hsK
          have HITT : Hid (rIt sK = ((((rN sK).1, (rN (rN sK).2).1), (rep rCm (rM (rN (rN sK).2).2).1 (rM (rN (rN sK).2).2).2).1), (rep rCm (rM (rN (rN sK).2).2).1 (rM (rN (rN sK).2).2).2).2)) := Lib.hid rfl
          have HT := Lib.hid (jnext_any g B sK wp HR.out hB)
          have hw1 := rN_w sK HR.out.wf
          have hle1 := rN_le sK
          obtain ⟨te, hte⟩ : ∃ te, te = (rN sK).1 := ⟨_, rfl⟩
          obtain ⟨sl, hsl⟩ : ∃ sl, sl = (rN sK).2 := ⟨_, rfl⟩
          rw [← hte, ← hsl] at HT HITT hw1
          rw [← hsl] at hle1
          have hw2 := rN_w sl hw1.2
          have hle2 := rN_le sl
          obtain ⟨tg, htg⟩ : ∃ tg, tg = (rN sl).1 := ⟨_, rfl⟩
          obtain ⟨sm, hsm⟩ : ∃ sm, sm = (rN sl).2 := ⟨_, rfl⟩
          rw [← htg, ← hsm] at HITT hw2
          rw [← hsm] at hle2
          have HTW : Hid ((Lit.int .i64 te).wf = true ∧ (Lit.int .i64 tg).wf = true) := Lib.hid ⟨hw1.1, hw2.1⟩
          have HSM := Lib.hid (And.intro htg hsm)
          have hm9 := rM_le sm
          obtain ⟨cn, hcn⟩ : ∃ cn, cn = (rM sm).1 := ⟨_, rfl⟩
          obtain ⟨sn, hsn⟩ : ∃ sn, sn = (rM sm).2 := ⟨_, rfl⟩
          rw [← hcn, ← hsn] at HITT hm9
          have HSN := Lib.hid (And.intro hcn hsn)
          have hcn9 : cn ≤ 1000000000 := by omega
          have hsn9 : sn.1.length ≤ 1000000000 := by omega
          clear hte hsl htg hsm hcn hsn hm9 hle1 hle2 hw1 hw2 hK9
          go_wp2_with fail
          refine HT.out.mono ?_
          clear HT
          rintro e w4 ⟨rfl, hr4, hg4⟩
          have HN2 := Lib.hid (by have := jnext_any g B sl w4 hr4 hB; rw [← HSM.out.1, ← HSM.out.2] at this; exact this)
          have HQ4 : Hid (Fq [g] wp w4) := Lib.hid (Fq.refl.gb hg4)
          clear hr4 hg4
          go_wp2_with fail
          refine HN2.out.mono ?_
          clear HN2
          rintro e w5 ⟨rfl, hr5, hg5⟩
          have HQ5 : Hid (Fq [g] wp w5) := Lib.hid (HQ4.out.gb hg5)
          obtain ⟨w6, hw6⟩ : ∃ w6, w6 = w5.alloc (.cells #[.int .i64 te, .int .i64 tg, .slice none 0 0] 147) := ⟨_, rfl⟩
          have hb6 : Below w5.heap.size w5 w6 := by rw [hw6]; exact (Below.refl _ _).alloc (Nat.le_refl _) _
          have hw5 : wp.heap.size ≤ w5.heap.size := HQ5.out.size
          have HQ6 : Hid (Fq [g] wp w6) := Lib.hid (HQ5.out.trans (Fq.of_below hb6) (SubF.refl _ _))
          obtain ⟨hi1, hhi⟩ : ∃ hi1, hi1 = w5.heap.size := ⟨_, rfl⟩
          have HI6 : Hid (Bk w6 hi1 147 #[.int .i64 te, .int .i64 tg, .slice none 0 0]) := Lib.hid (by rw [hw6, hhi]; exact Bk.new _ _ _)
          have HM := Lib.hid (by have := jmany_any g B sm w6 (hr5.below hb6 (by omega)) hB; rw [← HSN.out.1, ← HSN.out.2] at this; exact this)
          rw [← hhi] at hw5
          clear hr5 hg5 hb6 HQ4 HQ5
          go_wp2_with fail
          rw [← hw6, ← hhi]
          clear hw6 hhi
          refine HM.out.mono ?_
          clear HM
          rintro e w7 ⟨rfl, hr7, hg7⟩
          have HR7 := Lib.hid hr7
          have HQ7 : Hid (Fq [g] wp w7) := Lib.hid (HQ6.out.gb hg7)
          have HI7 : Hid (Bk w7 hi1 147 #[.int .i64 te, .int .i64 tg, .slice none 0 0]) := Lib.hid (HI6.out.grown hg7 (fun e => by injection e with e; omega))
          clear hr7 hg7 HQ6 HI6
          go_wp2_with fail
          go_loopw [56] (fun jv wx => ∃ (j cc : Nat) (CA : Option Addr) (cl : List Cm), j ≤ cn ∧ jv = .int .i64 j ∧ Hid (Bk wx hi1 147 #[.int .i64 te, .int .i64 tg, .slice CA j cc]) ∧ Hid (wx.ownsRow (hi1 + 1) 166 2 (.slice CA j cc) j (cmCs cl) ∧ cl.map Cm.p = (rep rCm j sn).1 ∧ ∀ z ∈ cl, CmY wx 0 z) ∧ Hid (RJ wx B g (rep rCm j sn).2) ∧ Hid (Fq [g] wp wx)) (fun jv _ => cn - (intOf jv).toNat)
          case atStart => exact ⟨0, 0, none, [], Nat.zero_le _, rfl, HI7, Lib.hid ⟨World.ownsRow_nil _ _ _ _, rfl, fun z hz => by cases hz⟩, HR7, HQ7⟩
          case round =>
            clear HI7 HR7 HQ7
            obtain ⟨j, cc, CA, cl, hj, rfl, HI, HC, HRx, HQx⟩ := hrel
            obtain ⟨wx, rfl⟩ : ∃ z, z = wr := ⟨_, rfl⟩
            have hix : hi1 < wx.heap.size := HI.out.lt
            by_cases hjl : j < cn
            · obtain ⟨sJ, hsJ⟩ : ∃ sJ, sJ = (rep rCm j sn).2 := ⟨_, rfl⟩
              have hJ9 : sJ.1.length ≤ 1000000000 := by rw [hsJ]; exact Nat.le_trans (rep_le rCm rCm_le j sn) hsn9
              have HSJ : Hid (rep rCm (j + 1) sn = ((rep rCm j sn).1 ++ [(rCm sJ).1], (rCm sJ).2)) := Lib.hid (by rw [hsJ]; rfl)
              rw [← hsJ] at HRx
              clear hsJ
              have HRo := HRx
              have HCF : Hid (rCm sJ = (((rN sJ).1, (rL (rN sJ).2).1), (rL (rN sJ).2).2)) := Lib.hid rfl
              have HJN := Lib.hid (fun wz hz => jnext_any g B sJ wz hz hB)
              have hw1 := rN_w sJ HRx.out.wf
              have hle1 := rN_le sJ
              obtain ⟨qk, hqk⟩ : ∃ qk, qk = (rN sJ).1 := ⟨_, rfl⟩
              obtain ⟨so, hso⟩ : ∃ so, so = (rN sJ).2 := ⟨_, rfl⟩
              rw [← hqk, ← hso] at HJN HCF hw1
              rw [← hso] at hle1
              have HQW : Hid ((Lit.int .i64 qk).wf = true) := Lib.hid hw1.1
              have ho9 : so.1.length ≤ 1000000000 := by omega
              have HJL := Lib.hid (fun wz hz => jlist_any g B so wz hz hB ho9)
              have hle2 := rL_le so
              obtain ⟨qv, hqv⟩ : ∃ qv, qv = (rL so).1 := ⟨_, rfl⟩
              obtain ⟨sp, hsp⟩ : ∃ sp, sp = (rL so).2 := ⟨_, rfl⟩
              rw [← hqv, ← hsp] at HJL HCF
              rw [← hqv] at hle2
              have hv9 : qv.length ≤ 1000000000 := by omega
              clear hqk hso hqv hsp hw1 hle1 hle2 ho9 hJ9 HRx
              have e2 : wx.cell? ⟨hi1, 2, none⟩ = some (.slice CA j cc) := HI.out.cell 2
              go_upto_region 20 with fail
              have s5 : wx.drew.cell? ⟨hi1, 2, none⟩ = some (.slice CA j cc) := e2
              refine wp_region_E (S := fun wz => wz.cell? ⟨hi1, 2, none⟩ = some (.slice CA j cc)) (last := 10) (by kernel_rfl) ?_
              refine wpAnyE_val (i := 0) (v := .pointer (some ⟨hi1, 2, none⟩)) (d := some 58) rfl rfl (by kernel_rfl) (by kernel_rfl) (by kernel_rfl) (by kernel_rfl) (fun _ _ _ h => h) (Or.inl ⟨by rfl, fun w hS => by go_simp⟩) s5 ?_
              (try simp only [Act.put, List.setIfInBounds_toArray, List.set_cons_zero, List.set_cons_succ])
              refine wpAnyE_val (i := 1) (v := .slice CA j cc) (d := some 59) rfl rfl (by kernel_rfl) (by kernel_rfl) (by kernel_rfl) (by kernel_rfl) (fun _ _ _ h => h) (Or.inl ⟨by rfl, fun w hS => by go_simp⟩) s5 ?_
              (try simp only [Act.put, List.setIfInBounds_toArray, List.set_cons_zero, List.set_cons_succ])
              refine wpAnyE_val (i := 2) (v := .pointer (some ⟨g, 0, none⟩)) (d := some 60) rfl rfl (by kernel_rfl) (by kernel_rfl) (by kernel_rfl) (by kernel_rfl) (fun _ _ _ h => h) (Or.inl ⟨by rfl, fun w hS => by go_simp⟩) s5 ?_
              (try simp only [Act.put, List.setIfInBounds_toArray, List.set_cons_zero, List.set_cons_succ])
              refine wpAnyE_val (i := 4) (v := .pointer (some ⟨g, 0, none⟩)) (d := some 62) rfl rfl (by kernel_rfl) (by kernel_rfl) (by kernel_rfl) (by kernel_rfl) (fun _ _ _ h => h) (Or.inl ⟨by rfl, fun w hS => by go_simp⟩) s5 ?_
              (try simp only [Act.put, List.setIfInBounds_toArray, List.set_cons_zero, List.set_cons_succ])
              refine wpAnyE_one (i := 3) rfl (by kernel_rfl) rfl ?_
              go_simp
              go_at_call 190
              (with_reducible refine (HJN.out _ ?hr).mono ?_)
              case hr => exact HRo.out.below (by repeat' first | exact Below.refl _ _ | refine Below.drew ?_) (HRo.out.lo hB)
              rintro e w6 ⟨rfl, hr6, hg6⟩
              have hi6 : Bk w6 hi1 147 #[.int .i64 te, .int .i64 tg, .slice CA j cc] := (Bk.drew HI.out).grown hg6 (fun e => by injection e with e; omega)
              refine ⟨hi6.cell 2, ?_⟩
              (try simp only [Act.put, List.setIfInBounds_toArray, List.set_cons_zero, List.set_cons_succ])
              refine wpAnyE_one (i := 5) rfl (by kernel_rfl) rfl ?_
              go_simp
              go_at_call 193
              (with_reducible refine (HJL.out _ ?hr).mono ?_)
              case hr => exact hr6
              rintro e w7 ⟨VA, vc, rfl, hown7, hr7, hg7⟩
              obtain ⟨vn, hvn⟩ : ∃ vn, vn = qv.length := ⟨_, rfl⟩
              rw [← hvn] at hown7 hv9 ⊢
              have HVN := Lib.hid hvn
              clear hvn
              have hi7 : Bk w7 hi1 147 #[.int .i64 te, .int .i64 tg, .slice CA j cc] := hi6.grown hg7 (fun e => by injection e with e; omega)
              have hq7 : Fq [g] wx w7 := ((Fq.refl.drew).gb hg6).gb hg7
              have hkf : Kx 0 [299] wx w7 := Kx.fqJ hq7 HRo.out (Nat.zero_le _)
              have hoc7 : w7.ownsRow (hi1 + 1) 166 2 (.slice CA j cc) j (cmCs cl) := hkf.own HC.out.1 (by decide)
              have hi1w7 : hi1 < w7.heap.size := hi7.lt
              refine ⟨hi7.cell 2, ?_⟩
              (try simp only [Act.put, List.setIfInBounds_toArray, List.set_cons_zero, List.set_cons_succ])
              refine wpAnyE_one (i := 6) rfl (by kernel_rfl) rfl ?_
              go_simp
              (try refine ⟨hi7.cell 2, ?_⟩)
              (try simp only [Act.put, List.setIfInBounds_toArray, List.set_cons_zero, List.set_cons_succ])
              refine wpAnyE_one (i := 7) rfl (by kernel_rfl) rfl ?_
              go_simp
              first | refine ⟨hi7.cell 2, ?_⟩ | refine ⟨(hi7.alloc _).cell 2, ?_⟩
              (try simp only [Act.put, List.setIfInBounds_toArray, List.set_cons_zero, List.set_cons_succ])
              refine wpAnyE_if (i := 8) rfl (by kernel_rfl) rfl ?_
              refine step_append_one rfl (.tmp 59) (.tmp 65) 38 rfl (hi1 + 1) 166 iC (.agg #[.int .i64 0, .slice none 0 0]) 2 32 Try.underlying38 hiC hzC0 hzC1 hzC2 rfl (by decide) (.slice CA j cc) j (cmCs cl) rfl (World.ownsRow.alloc hoc7 _) w7.heap.size 1 166 #[.int .i64 qk, .slice VA vn vc] rfl (Bk.new w7 _ _) rfl ?c1 (j + 1) rfl ?c2 ?c3 ?c4 ?_
              case c1 => simp [Value.oneCell']
              case c2 => unfold maxLen; omega
              case c3 => omega
              case c4 => simp; omega
              intro g8 c8 w8 hown8 hg8 hat8
              have hi8 := (hi7.alloc (.cells #[.int .i64 qk, .slice VA vn vc] 166)).grown hg8 (fun e => own_ne hoc7 hi7 (by decide) e.symm)
              have c82 : w8.cell? ⟨hi1, 2, none⟩ = some (.slice CA j cc) := hi8.cell 2
              have f82 : w8.frozen? ⟨hi1, 2, none⟩ = false := hi8.frozen 2
              refine ⟨fun _ => c82, ?_⟩
              (try simp only [Act.put, List.setIfInBounds_toArray])
              refine wpAnyE_val (i := 9) (v := .pointer (some ⟨hi1, 2, none⟩)) (d := some 67) rfl rfl (by kernel_rfl) (by kernel_rfl) (by kernel_rfl) (by kernel_rfl) (fun _ _ _ h => h) (Or.inl ⟨by rfl, fun w hS => by go_simp⟩) c82 ?_
              (try simp only [Act.put])
              refine wpAnyE_one (i := 10) rfl (by kernel_rfl) rfl ?_
              go_simp
              refine wpAnyE_done (by kernel_rfl) ?_ _
              obtain ⟨wN, hwN⟩ : ∃ wN, wN = w8.setCell ⟨hi1, 2, none⟩ (.slice (some ⟨g8, 0, none⟩) (j + 1) c8) := ⟨_, rfl⟩
              have hkx : Kx B [166, 147] w7 wN := by rw [hwN]; exact (((Kx.refl (B := B)).alloc _).grown (World.ownsRow.alloc hoc7 _) hg8 (by omega) (by simp)).set hi8 (by omega) (by simp) 2 _
              have hkx0 : Kx 0 [166, 147] w7 wN := hkx.mono (Nat.zero_le _) (fun _ h => h)
              have hz : CmY wN 0 ⟨qk, VA, vn, vc, qv⟩ := by
                have h1 := hkx0.own hown7 (by decide)
                have h2 := own_cap2 h1
                exact ⟨RdY.of_own h1, HVN.out, h2.1, h2.2, HQW.out⟩
              have HIn : Hid (Bk wN hi1 147 #[.int .i64 te, .int .i64 tg, .slice (some ⟨g8, 0, none⟩) (j + 1) c8]) := Lib.hid (by rw [hwN]; exact hi8.set_ 2 _)
              have HCn : Hid (wN.ownsRow (hi1 + 1) 166 2 (.slice (some ⟨g8, 0, none⟩) (j + 1) c8) (j + 1) (cmCs (cl ++ [(⟨qk, VA, vn, vc, qv⟩ : Cm)])) ∧ (cl ++ [(⟨qk, VA, vn, vc, qv⟩ : Cm)]).map Cm.p = (rep rCm (j + 1) sn).1 ∧ ∀ z ∈ cl ++ [(⟨qk, VA, vn, vc, qv⟩ : Cm)], CmY wN 0 z) := Lib.hid (by
                refine ⟨?_, ?_, ?_⟩
                · rw [hwN]
                  have e : cmCs (cl ++ [(⟨qk, VA, vn, vc, qv⟩ : Cm)]) = cmCs cl ++ [.int .i64 qk, .slice VA vn vc] := by simp [cmCs, Cm.cs]
                  rw [e]
                  exact own_farU hown8 hi8 (by decide) 2 _
                · rw [List.map_append, HC.out.2.1, HSJ.out, HCF.out]; rfl
                · intro z hz1
                  rcases List.mem_append.1 hz1 with h | h
                  · exact ((HC.out.2.2 z h).keep hkf (by decide)).keep hkx0 (by decide)
                  · have := List.mem_singleton.1 h
                    subst this
                    exact hz)
              have HRn : Hid (RJ wN B g (rep rCm (j + 1) sn).2) := Lib.hid (by rw [HSJ.out, HCF.out]; exact hr7.kx hkx (Nat.le_refl _) (hr7.lo hB) (by decide))
              have HQn : Hid (Fq [g] wp wN) := Lib.hid (by
                rw [hwN]
                exact (((HQx.out.trans hq7 (SubF.refl _ _)).alloc _).grown hg8 (fun q hq => .inr (by have := (hoc7.lt q hq).1; omega))).set (.inr (by omega)) 2 _)
              try rw [← hwN]
              clear hkx hkx0 hz hown8 hg8 hat8 hi8 c82 f82 hoc7 hkf hq7 hi7 hi6 hr7 hr6 hg7 hg6 hown7 s5 e2 hwN HI HC HQx HRo
              go_wp2_with fail
              go_roundw
              case rel => exact ⟨j + 1, c8, _, _, by omega, by go_num, HIn, HCn, HRn, HQn⟩
              case measure => simp [intOf]; omega
            · obtain rfl : j = cn := by omega
              have hkf := Kx.fqJ (B' := B) HQx.out HR.out hB
              have hkf0 : Kx 0 [299] wp wx := Kx.fqJ HQx.out HR.out (Nat.zero_le _)
              have HYx : Hid (Bk wx (w.heap.size + 1) 52 #[.slice KA i kc, .slice GA gn gc, .slice IA k ic]) := Lib.hid (hkf.bk HY3.out (by decide))
              have HYx2 : Hid (Bk wx w.heap.size 52 #[.slice none 0 0, .slice none 0 0, .slice none 0 0]) := Lib.hid (hkf.bk HY2.out (by decide))
              have HKGx : Hid (KsY wx 0 KA i kc l1 ∧ GsY wx 0 GA gn gc gens) := Lib.hid ⟨HKG.out.1.keep hkf0 (by decide) (by decide), HKG.out.2.keep hkf0 (by decide)⟩
              have HLx : Hid (wx.ownsRow (w.heap.size + 2) 147 3 (.slice IA k ic) k (itCs l3) ∧ ∀ z ∈ l3, ItY wx 0 z) := Lib.hid ⟨hkf.own HL.out.1 (by decide), fun z hz => (HL.out.2.2 z hz).keep hkf0 (by decide) (by decide)⟩
              obtain ⟨tc, htc⟩ : ∃ tc, tc = (rep rCm j sn).1 := ⟨_, rfl⟩
              have HTV : Hid (rIt sK = (((te, tg), tc), (rep rCm j sn).2)) := Lib.hid (by rw [htc]; exact HITT.out)
              have HCN : Hid (tc.length = j) := Lib.hid (by rw [htc]; exact rep_len rCm j sn)
              have HCT : Hid (cl.map Cm.p = tc) := Lib.hid (by rw [htc]; exact HC.out.2.1)
              have HRy := HRx
              have e0 : wx.cell? ⟨w.heap.size + 1, 2, none⟩ = some (.slice IA k ic) := HYx.out.cell 2
              have e1 : wx.cell? ⟨hi1, 0, none⟩ = some (.int .i64 te) := HI.out.cell 0
              have e2 : wx.cell? ⟨hi1, 1, none⟩ = some (.int .i64 tg) := HI.out.cell 1
              have e3 : wx.cell? ⟨hi1, 2, none⟩ = some (.slice CA j cc) := HI.out.cell 2
              have hxs : w.heap.size + 1 < wx.heap.size := HYx.out.lt
              clear hkf hkf0 htc HRx HI
              go_wp2_with
                (at_builtin
                 go_must (refine wpList_append_one _ rfl (.tmp 70) (.tmp 72) _ rfl (w.heap.size + 2) 147 iI (.agg #[.int .i64 0, .int .i64 0, .slice none 0 0]) 3 40 Try.underlying50 hiI hzI0 hzI1 hzI2 rfl (by decide) (.slice IA k ic) k _ rfl (HLx.out.1.alloc _) wx.heap.size 1 147 #[.int .i64 te, .int .i64 tg, .slice CA j cc] rfl (Bk.new _ _ _) rfl ?c1 (k + 1) rfl ?c2 ?c3 ?c4 ?_)
                 case c1 => simp [Value.oneCell']
                 case c2 => unfold maxLen; omega
                 case c3 => omega
                 case c4 => simp; omega
                 intro gB cB wB hownB hgB hatB
                 have hkB := (HYx.out.alloc (.cells #[.int .i64 te, .int .i64 tg, .slice CA j cc] 147)).grown hgB (fun e => own_ne HLx.out.1 HYx.out (by decide) e.symm)
                 have hkB2 := (HYx2.out.alloc (.cells #[.int .i64 te, .int .i64 tg, .slice CA j cc] 147)).grown hgB (fun e => own_ne HLx.out.1 HYx2.out (by decide) e.symm)
                 have cB1 : wB.cell? ⟨w.heap.size + 1, 2, none⟩ = some (.slice IA k ic) := hkB.cell 2
                 have fB1 : wB.frozen? ⟨w.heap.size + 1, 2, none⟩ = false := hkB.frozen 2)
              obtain ⟨wN, hwN⟩ : ∃ wN, wN = wB.setCell ⟨w.heap.size + 1, 2, none⟩ (.slice (some ⟨gB, 0, none⟩) (k + 1) cB) := ⟨_, rfl⟩
              have hkx : Kx B [147, 52] wx wN := by rw [hwN]; exact (((Kx.refl (B := B)).alloc _).grown (World.ownsRow.alloc HLx.out.1 _) hgB (by omega) (by simp)).set hkB (by omega) (by simp) 2 _
              have hkx0 : Kx 0 [147, 52] wx wN := hkx.mono (Nat.zero_le _) (fun _ h => h)
              have HY3n : Hid (Bk wN (w.heap.size + 1) 52 #[.slice KA i kc, .slice GA gn gc, .slice (some ⟨gB, 0, none⟩) (k + 1) cB]) := Lib.hid (by rw [hwN]; exact hkB.set_ 2 _)
              have HY2n : Hid (Bk wN w.heap.size 52 #[.slice none 0 0, .slice none 0 0, .slice none 0 0]) := Lib.hid (by rw [hwN]; exact hkB2.far (by show w.heap.size ≠ w.heap.size + 1; omega) _)
              have HKGn : Hid (KsY wN 0 KA i kc l1 ∧ GsY wN 0 GA gn gc gens) := Lib.hid ⟨HKGx.out.1.keep hkx0 (by decide) (by decide), HKGx.out.2.keep hkx0 (by decide)⟩
              have hz : ItY wN 0 ⟨te, tg, CA, j, cc, cl⟩ := by
                have h1 := hkx0.own HC.out.1 (by decide)
                have h2 := own_cap2 h1
                have h3 : cl.length = j := by have h4 := congrArg List.length HCT.out; rw [List.length_map] at h4; rw [h4]; exact HCN.out
                have h5 := HTW.out
                exact ⟨⟨RdY.of_own h1, h3.symm, h2.1, h2.2, fun z hz => (HC.out.2.2 z hz).keep hkx0 (by decide)⟩, h5.1, h5.2⟩
              have HLn : Hid (wN.ownsRow (w.heap.size + 2) 147 3 (.slice (some ⟨gB, 0, none⟩) (k + 1) cB) (k + 1) (itCs (l3 ++ [(⟨te, tg, CA, j, cc, cl⟩ : It)])) ∧ (l3 ++ [(⟨te, tg, CA, j, cc, cl⟩ : It)]).map It.p = (rep rIt (k + 1) si).1 ∧ ∀ z ∈ l3 ++ [(⟨te, tg, CA, j, cc, cl⟩ : It)], ItY wN 0 z) := Lib.hid (by
                refine ⟨?_, ?_, ?_⟩
                · rw [hwN]
                  have e : itCs (l3 ++ [(⟨te, tg, CA, j, cc, cl⟩ : It)]) = itCs l3 ++ [.int .i64 te, .int .i64 tg, .slice CA j cc] := by simp [itCs, It.cs]
                  rw [e]
                  exact own_farU hownB hkB (by decide) 2 _
                · have e : (⟨te, tg, CA, j, cc, cl⟩ : It).p = ((te, tg), tc) := by unfold It.p; rw [HCT.out]
                  rw [List.map_append, HL.out.2.1, HSK.out, HTV.out, List.map_cons, e]; rfl
                · intro z hz1
                  rcases List.mem_append.1 hz1 with h | h
                  · exact (HLx.out.2 z h).keep hkx0 (by decide) (by decide)
                  · have := List.mem_singleton.1 h
                    subst this
                    exact hz)
              have HRn : Hid (RJ wN B g (rep rIt (k + 1) si).2) := Lib.hid (by rw [HSK.out, HTV.out]; exact HRy.out.kx hkx (Nat.le_refl _) (HRy.out.lo hB) (by decide))
              have HQn : Hid (Fq [g] w wN) := Lib.hid (by
                rw [hwN]
                exact ((((HQ.out.trans HQx.out (SubF.refl _ _)).alloc _).grown hgB (fun q hq => .inr (by have := (HLx.out.1.lt q hq).1; omega))).set (.inr (by omega)) 2 _))
              clear hkx hkx0 hz hownB hgB hatB hkB2
              go_wp2_with fail
              rw [← hwN]
              clear hwN hkB cB1 fB1 e0 e1 e2 e3
              go_roundw
              case rel => exact ⟨k + 1, cB, _, _, by omega, by go_num, HY3n, HY2n, HKGn, HLn, HRn, HQn⟩
              case measure => simp [intOf]; omega
        · obtain rfl : k = N := by omega
          have e0 : wp.cell? ⟨w.heap.size + 1, 0, none⟩ = some (.slice KA i kc) := HY3.out.cell 0
          have e1 : wp.cell? ⟨w.heap.size + 1, 1, none⟩ = some (.slice GA gn gc) := HY3.out.cell 1
          have e2 : wp.cell? ⟨w.heap.size + 1, 2, none⟩ = some (.slice IA k ic) := HY3.out.cell 2
          have c0 : wp.cell? ⟨w.heap.size, 0, none⟩ = some (.slice none 0 0) := HY2.out.cell 0
          have c1 : wp.cell? ⟨w.heap.size, 1, none⟩ = some (.slice none 0 0) := HY2.out.cell 1
          have c2 : wp.cell? ⟨w.heap.size, 2, none⟩ = some (.slice none 0 0) := HY2.out.cell 2
          have f0 := HY2.out.frozen 0
          have f1 := HY2.out.frozen 1
          have f2 := HY2.out.frozen 2
          go_wp2_with fail
          (try simp only [Exit.inBlock, Exit.then])
          have hk1 := HY2.out.set_ 0 (Value.slice KA i kc)
          have hk2 := hk1.set_ 1 (Value.slice GA gn gc)
          have hKB : Kx B [52] wp (((wp.setCell ⟨w.heap.size, 0, none⟩ (.slice KA i kc)).setCell ⟨w.heap.size, 1, none⟩ (.slice GA gn gc)).setCell ⟨w.heap.size, 2, none⟩ (.slice IA k ic)) :=
            (((Kx.refl (B := B)).set HY2.out (by omega) (by simp) 0 _).set hk1 (by omega) (by simp) 1 _).set hk2 (by omega) (by simp) 2 _
          have hK0 := hKB.mono (B' := 0) (G := [52]) (Nat.zero_le _) (fun _ h => h)
          have h1 := hK0.own HL.out.1 (by decide)
          have h2 := own_cap2 h1
          have h3 : l3.map It.p = (rep rIt k si).1 := HL.out.2.1
          have h4 : l3.length = k := by have h5 := congrArg List.length h3; rw [List.length_map, rep_len] at h5; exact h5
          have h6 : (⟨KA, i, kc, l1, GA, gn, gc, gens, IA, k, ic, l3⟩ : Wd).p = (rWd s).1 := by rw [HWD.out, HIS.out]; unfold Wd.p; rw [HKS.out, h3]
          refine bodyPost_ret (v := .agg #[.slice KA i kc, .slice GA gn gc, .slice IA k ic]) ?_ rfl ⟨⟨KA, i, kc, l1, GA, gn, gc, gens, IA, k, ic, l3⟩, rfl, Lib.hid ⟨⟨HKG.out.1.keep hK0 (by decide) (by decide), HKG.out.2.keep hK0 (by decide), ⟨RdY.of_own h1, h4.symm, h2.1, h2.2, fun z hz => (HL.out.2.2 z hz).keep hK0 (by decide) (by decide)⟩⟩, h6⟩, (HR.out.eq (by rw [HWD.out, HIS.out])).kx hKB (Nat.le_refl _) (HR.out.lo hB) (by decide), ((HQ.out.set (.inr (Nat.le_refl _)) 0 _).set (.inr (Nat.le_refl _)) 1 _).set (.inr (Nat.le_refl _)) 2 _⟩
          rw [results_c1 rfl]
          go_simp
end Go.Proofs.Ytnidcmhfbkdioaa
