/-
  The contract of tourref4.Numbers at any state. Conditions: at most 10^9 numbers.
-/
import Derived.Test.YtnidcmhfbkdioaaAf
import Derived.Test.YtnidcmhfbkdioaaAg
namespace Go.Proofs.Ytnidcmhfbkdioaa
open Go.RowKit
set_option maxRecDepth 100000

theorem NK.lo {B : Nat} {w w' : World} (h : NK B w w') (hB : B ≤ w.heap.size) : Below B w w' := ⟨h.os, h.tape, h.output, h.kx.size, fun k hk => h.kx.low k hk (by omega)⟩
theorem NK.al {B : Nat} {w w' : World} (h : NK B w w') (o : Obj) : NK B w (w'.alloc o) := h.trans (NK.of_below ((Below.refl _ _).alloc (Nat.le_refl _) _))

set_option maxHeartbeats 16000000 in
theorem numsG_any (x : Sm) (B : Nat) (w : World) (hW : SmO w B x) (hB : B ≤ w.heap.size) (hS : (flatS x.p).length ≤ 1000000000) :
    Calls Try.prog 43 #[.agg x.cs] w (RetS w 3 1 (flatS x.p).length ((flatS x.p).map (Value.int .i64))) := by
  obtain ⟨i3, hi3, hz30, hz31, hz32⟩ := info_parts T.info3
  obtain ⟨p, hp⟩ : ∃ p, p = x.d.p := ⟨_, rfl⟩
  obtain ⟨Tk, ⟨kA, kn, kc, ks, gA, gn, gc, gens, iA, im, ic, its⟩, cA, cn, cc, cts, mA, mn, mc, mds, eA, en, ec, evs⟩ := x
  have HP : Hid (p.ks = ks.map Kd.p ∧ p.gens = gens ∧ p.its = its.map It.p) := Lib.hid (by rw [hp]; exact ⟨rfl, rfl, rfl⟩)
  obtain ⟨FS, hFS⟩ : ∃ z, z = flatS (⟨Tk, p, cts, mds.map Mdm.p, evs⟩ : Sv) := ⟨_, rfl⟩
  have hFS2 : flatS (Sm.p ⟨Tk, ⟨kA, kn, kc, ks, gA, gn, gc, gens, iA, im, ic, its⟩, cA, cn, cc, cts, mA, mn, mc, mds, eA, en, ec, evs⟩) = FS := by rw [hFS, hp]; rfl
  rw [hFS2] at hS ⊢
  have hlen : 2 + (p.ks.flatMap kdN).length + 1 + p.gens.length + 1 + (p.its.flatMap itN).length + 1 + (cts.flatMap id).length + 1 + ((mds.map Mdm.p).flatMap mdN).length + 1 + (evs.flatMap id).length ≤ 1000000000 := by
    refine Nat.le_trans (Nat.le_of_eq ?_) hS
    rw [hFS]
    simp only [flatS, worldN, gensN, itsN, ctsN, mdsN, evsN, List.length_append, List.length_cons, List.length_nil]
    omega
  obtain ⟨L1, hL1⟩ : ∃ z, z = (p.ks.flatMap kdN).length := ⟨_, rfl⟩
  obtain ⟨L3, hL3⟩ : ∃ z, z = (p.its.flatMap itN).length := ⟨_, rfl⟩
  obtain ⟨L4, hL4⟩ : ∃ z, z = (cts.flatMap id).length := ⟨_, rfl⟩
  obtain ⟨L5, hL5⟩ : ∃ z, z = ((mds.map Mdm.p).flatMap mdN).length := ⟨_, rfl⟩
  obtain ⟨L6, hL6⟩ : ∃ z, z = (evs.flatMap id).length := ⟨_, rfl⟩
  rw [← hL1, ← hL3, ← hL4, ← hL5, ← hL6] at hlen
  have HL := Lib.hid (And.intro hL1 (And.intro hL3 (And.intro hL4 (And.intro hL5 hL6))))
  have HFS := Lib.hid hFS
  clear hp hFS hFS2 hL1 hL3 hL4 hL5 hL6 hS
  unfold Sm.cs
  dsimp only
  obtain ⟨W0, hW0⟩ : ∃ W0, W0 = (w.alloc (.cells #[.int .i64 Tk, .slice kA kn kc, .slice gA gn gc, .slice iA im ic, .slice cA cn cc, .slice mA mn mc, .slice eA en ec] 80)).alloc (.cells #[.slice none 0 0] 30) := ⟨_, rfl⟩
  have hb0 : Below w.heap.size w W0 := by rw [hW0]; exact Below.al (Below.al (Below.refl _ _) _) _
  have hs0 : W0.heap.size = w.heap.size + 2 := by rw [hW0]; simp
  have HB0 := Lib.hid hb0
  have HSZ : Hid (w.heap.size + 2 ≤ W0.heap.size) := Lib.hid (by omega)
  have HX0 : Hid (Bk W0 w.heap.size 80 #[.int .i64 Tk, .slice kA kn kc, .slice gA gn gc, .slice iA im ic, .slice cA cn cc, .slice mA mn mc, .slice eA en ec]) := Lib.hid (by rw [hW0]; exact (Bk.new _ _ _).alloc _)
  have hg0 : Bk W0 (w.heap.size + 1) 30 #[.slice none 0 0] := by rw [hW0]; exact Bk.two _ _ _ _
  have HK := Lib.hid (hW.d.ks.below (hb0.mono hB))
  have HGS := Lib.hid (hW.d.gs.below (hb0.mono hB))
  have HIS := Lib.hid (hW.d.its.below (hb0.mono hB))
  have HCS := Lib.hid (hW.c.below (hb0.mono hB))
  have HMS := Lib.hid (hW.m.below (hb0.mono hB))
  have HES := Lib.hid (hW.e.below (hb0.mono hB))
  obtain ⟨gl, hgl⟩ : ∃ z, z = w.heap.size + 1 := ⟨_, rfl⟩
  rw [← hgl] at hg0
  have HGL : Hid (w.heap.size ≤ gl) := Lib.hid (by omega)
  have HN : Hid (NuI W0 gl (w.heap.size + 2) none 0 0 []) := Lib.hid ⟨hg0, World.ownsRow_nil _ _ _ _, rfl⟩
  have HQ : Hid (NK w.heap.size W0 W0) := Lib.hid NK.refl
  have d0 : W0.cell? ⟨w.heap.size, 0, none⟩ = some (.int .i64 Tk) := HX0.out.cell 0
  have d1 : W0.cell? ⟨w.heap.size, 1, none⟩ = some (.slice kA kn kc) := HX0.out.cell 1
  have hkn : kn = ks.length := hW.d.ks.len
  have hgn' : gn = gens.length := hW.d.gs.len
  have hin' : im = its.length := hW.d.its.len
  have hkl : kn ≤ L1 := by rw [hkn, HL.out.1, ← List.length_map (f := Kd.p), ← HP.out.1]; exact len_flat kdN kdN_pos _
  have hgn : p.gens.length = gn := by rw [HP.out.2.1]; exact hgn'.symm
  rw [hgn] at hlen
  have HGE := Lib.hid hgn
  have hil : im ≤ L3 := by rw [hin', HL.out.2.1, ← List.length_map (f := It.p), ← HP.out.2.2]; exact len_flat itN itN_pos _
  have HKN := Lib.hid hkn
  clear hW hb0 hs0 hkn hgn' hin' hgn hg0
  go_enter Try.func43, Try.ntmps43
  go_upto_region 4 with fail
  rw [← hgl, ← hW0]
  clear hgl hW0
  have c0 : W0.cell? ⟨gl, 0, none⟩ = some (.slice none 0 0) := HN.out.bk.cell 0
  have hbX : w.heap.size + 2 ≤ W0.heap.size := by have := HQ.out.kx.size; have := HSZ.out; omega
  go_upto_region 5 with
    (at_builtin
     go_must (refine wpList_append_rd _ rfl (.tmp 22) (.tmp 29) _ rfl (w.heap.size + 2) 3 i3 (.int .i64 0) 1 8 Try.underlying30 hi3 hz30 hz31 hz32 rfl (by decide) (.slice none 0 0) (0) _ rfl (HN.out.own.alloc _) (W0.heap.size + 1) _ 2 2 [.int .i64 Tk, .int .i64 kn] rfl (Rd.new W0 3 2 1 #[.int .i64 Tk, .int .i64 kn] rfl) ?c1 ?c2 ?c3 ?c4 ?_)
     case c1 => simp [Value.oneCell']
     case c2 => unfold maxLen; omega
     case c3 => omega
     case c4 => simp; omega
     intro Aa ca va hown hgr hat
     have hk3 := (HN.out.bk.alloc (.cells #[.int .i64 Tk, .int .i64 kn] 3)).grown hgr (fun e => own_ne HN.out.own HN.out.bk (by decide) e.symm)
     have cB : va.cell? ⟨gl, 0, none⟩ = some (.slice none 0 0) := hk3.cell 0
     have fB : va.frozen? ⟨gl, 0, none⟩ = false := hk3.frozen 0)
  have hp := HN.out.push (B := w.heap.size) (w' := W0.alloc (.cells #[.int .i64 Tk, .int .i64 kn] 3)) (n' := 0 + 2) (ys := [Tk, (kn : Int)]) ((Below.refl _ _).alloc (Nat.le_refl _) _) (by rw [List.map_append]; exact hown) hgr rfl (by omega) HGL.out
  obtain ⟨Wa, hWa⟩ : ∃ z, z = va.setCell ⟨gl, 0, none⟩ (.slice Aa (0 + 2) ca) := ⟨_, rfl⟩
  rw [← hWa] at hp
  have HNa := Lib.hid hp.1
  have HPa := Lib.hid hp.2
  have HQa := Lib.hid (HQ.out.trans hp.2)
  clear hp hown hgr hat hk3 c0 hbX d0 d1
  rw [← hWa]
  clear hWa cB fB
  have HXa : Hid (Bk Wa w.heap.size 80 #[.int .i64 Tk, .slice kA kn kc, .slice gA gn gc, .slice iA im ic, .slice cA cn cc, .slice mA mn mc, .slice eA en ec]) := Lib.hid (HPa.out.kx.bk HX0.out (by decide))
  have d1 : Wa.cell? ⟨w.heap.size, 1, none⟩ = some (.slice kA kn kc) := HXa.out.cell 1
  go_wp2_with fail
  clear d1
  go_loopw [35] (fun iv wr => ∃ (i m c : Nat) (A : Option Addr) (xs : List Int), i ≤ kn ∧ iv = .int .i64 i ∧ Hid (NuI wr gl (w.heap.size + 2) A m c xs) ∧ Hid (NK w.heap.size W0 wr) ∧ Hid (xs = [Tk, (kn : Int)] ++ (p.ks.take i).flatMap kdN)) (fun iv _ => kn - (intOf iv).toNat)
  case atStart => exact ⟨0, 0 + 2, ca, Aa, _, Nat.zero_le _, rfl, HNa, HQa, Lib.hid (by simp)⟩
  case round =>
    clear HNa HQa HPa HXa HN HQ
    obtain ⟨i, m, c, A, xs, hi, rfl, HN, HQ, HE⟩ := hrel
    obtain ⟨wo, rfl⟩ : ∃ z, z = wr := ⟨_, rfl⟩
    have hbw : w.heap.size + 2 ≤ wo.heap.size := by have := HQ.out.kx.size; have := HSZ.out; omega
    by_cases hlt : i < kn
    · obtain ⟨k, hk⟩ : ∃ k, ks[i]? = some k := ⟨_, List.getElem?_eq_getElem (by have := HKN.out; omega)⟩
      have hkso := HK.out.below ((HQ.out.lo (by have := HSZ.out; omega)).mono (by omega))
      have hko := HK.out.ok k (List.mem_of_getElem? hk)
      obtain ⟨b, o, rfl, hbb, q0, q1⟩ := hkso.rd.kd hlt hk
      have hkp : p.ks[i]? = some k.p := by rw [HP.out.1, List.getElem?_map, hk]; rfl
      have hbd : m + 1 + k.nm.size + 1 + (k.fds.flatMap fdN).length ≤ 2 + L1 := by
        have h1 := take_flat kdN hkp
        have h2 := HN.out.len
        rw [HE.out] at h2
        have h3 : (kdN k.p).length = 1 + k.nm.size + 1 + (k.fds.flatMap fdN).length := by
          unfold kdN Kd.p textF
          simp only [List.length_append, List.length_cons, List.length_nil, byteL_length]
          omega
        rw [HL.out.1]
        simp only [List.length_append, List.length_cons, List.length_nil] at h2
        omega
      obtain ⟨LF, hLF⟩ : ∃ z, z = (k.fds.flatMap fdN).length := ⟨_, rfl⟩
      rw [← hLF] at hbd
      have hfl : k.n ≤ LF := by rw [hLF, hko.len]; exact len_flat fdN fdN_pos _
      have HLF := Lib.hid hLF
      clear hLF
      have HKP := Lib.hid hkp
      have HKO := Lib.hid hko
      clear hkso hko hkp hk
      generalize hknm : k.nm = knm at *
      generalize hkA : k.A = fA at *
      generalize hkn : k.n = fn at *
      generalize hkc : k.c = fc at *
      have HKV := Lib.hid (And.intro hknm (And.intro hkA (And.intro hkn hkc)))
      clear hknm hkA hkn hkc
      obtain ⟨w1, hw1⟩ : ∃ w1, w1 = wo.alloc (.cells #[.string knm, .slice fA fn fc] 63) := ⟨_, rfl⟩
      have hB1 : Below wo.heap.size wo w1 := by rw [hw1]; exact (Below.refl _ _).alloc (Nat.le_refl _) _
      obtain ⟨hk, hhk⟩ : ∃ hk, hk = wo.heap.size := ⟨_, rfl⟩
      have HK1 : Hid (Bk w1 hk 63 #[.string knm, .slice fA fn fc]) := Lib.hid (by rw [hw1, hhk]; exact Bk.new _ _ _)
      have HN1 := Lib.hid (HN.out.below hB1)
      have HQ1 : Hid (NK w.heap.size W0 w1) := Lib.hid (HQ.out.trans (NK.of_below hB1))
      clear hB1
      go_upto_region 8 with fail
      rw [← hw1, ← hhk]
      clear hw1 hhk q0 q1
      have e0 : w1.cell? ⟨hk, 0, none⟩ = some (.string knm) := HK1.out.cell 0
      have hbX : w.heap.size + 2 ≤ w1.heap.size := by have := HQ1.out.kx.size; have := HSZ.out; omega
      have HT := Lib.hid (ntext_any gl (w.heap.size + 2) (m) c A xs knm w.heap.size w1 HN1.out (by omega) HGL.out (by omega) hbX)
      go_wp2_with fail
      refine HT.out.mono ?_
      clear HT hbX
      rintro e Wb ⟨Ab, cb, rfl, HNb, HPb⟩
      have HQb := Lib.hid (HQ1.out.trans HPb.out)
      have HKb : Hid (Bk Wb hk 63 #[.string knm, .slice fA fn fc]) := Lib.hid (HPb.out.kx.bk HK1.out (by decide))
      have e1 : Wb.cell? ⟨hk, 1, none⟩ = some (.slice fA fn fc) := HKb.out.cell 1
      clear e0 HN HN1 HQ1 HK1
      have c0 : Wb.cell? ⟨gl, 0, none⟩ = some (.slice Ab (m + 1 + knm.size) cb) := HNb.out.bk.cell 0
      have hbX : w.heap.size + 2 ≤ Wb.heap.size := by have := HQb.out.kx.size; have := HSZ.out; omega
      go_upto_region 10 with
        (at_builtin
         go_must (refine wpList_append_rd _ rfl (.tmp 43) (.tmp 47) _ rfl (w.heap.size + 2) 3 i3 (.int .i64 0) 1 8 Try.underlying30 hi3 hz30 hz31 hz32 rfl (by decide) (.slice Ab (m + 1 + knm.size) cb) ((m + 1 + knm.size)) _ rfl (HNb.out.own.alloc _) (Wb.heap.size + 1) _ 1 1 [.int .i64 fn] rfl (Rd.new Wb 3 1 1 #[.int .i64 fn] rfl) ?c1 ?c2 ?c3 ?c4 ?_)
         case c1 => simp [Value.oneCell']
         case c2 => unfold maxLen; omega
         case c3 => omega
         case c4 => simp; omega
         intro Ad cd vd hown hgr hat
         have hk3 := (HNb.out.bk.alloc (.cells #[.int .i64 fn] 3)).grown hgr (fun e => own_ne HNb.out.own HNb.out.bk (by decide) e.symm)
         have cB : vd.cell? ⟨gl, 0, none⟩ = some (.slice Ab (m + 1 + knm.size) cb) := hk3.cell 0
         have fB : vd.frozen? ⟨gl, 0, none⟩ = false := hk3.frozen 0)
      have hp := HNb.out.push (B := w.heap.size) (w' := Wb.alloc (.cells #[.int .i64 fn] 3)) (n' := (m + 1 + knm.size) + 1) (ys := [(fn : Int)]) ((Below.refl _ _).alloc (Nat.le_refl _) _) (by rw [List.map_append]; exact hown) hgr rfl (by omega) HGL.out
      obtain ⟨Wd, hWd⟩ : ∃ z, z = vd.setCell ⟨gl, 0, none⟩ (.slice Ad ((m + 1 + knm.size) + 1) cd) := ⟨_, rfl⟩
      rw [← hWd] at hp
      have HNd := Lib.hid hp.1
      have HPd := Lib.hid hp.2
      have HQd := Lib.hid (HQb.out.trans hp.2)
      clear hp hown hgr hat hk3 c0 hbX e1
      rw [← hWd]
      clear hWd cB fB
      have HKd : Hid (Bk Wd hk 63 #[.string knm, .slice fA fn fc]) := Lib.hid (HPd.out.kx.bk HKb.out (by decide))
      have e1 : Wd.cell? ⟨hk, 1, none⟩ = some (.slice fA fn fc) := HKd.out.cell 1
      go_wp2_with fail
      clear e1 HNb HQb HPb HPd HKb
      obtain ⟨ys, hys⟩ : ∃ ys, ys = xs ++ textF knm ++ [(fn : Int)] := ⟨_, rfl⟩
      rw [← hys] at HNd
      have HYS := Lib.hid hys
      clear hys
      obtain ⟨m3, hm3⟩ : ∃ m3, m3 = m + 1 + knm.size + 1 := ⟨_, rfl⟩
      rw [← hm3] at HNd
      have hm3' : m3 + LF ≤ 2 + L1 := by omega
      have HM3 : Hid (m3 = ys.length) := Lib.hid HNd.out.len
      clear hm3
      go_loopw [52] (fun jv wx => ∃ (j m c : Nat) (A : Option Addr) (zs : List Int), j ≤ fn ∧ jv = .int .i64 j ∧ Hid (NuI wx gl (w.heap.size + 2) A m c zs) ∧ Hid (NK w.heap.size W0 wx) ∧ Hid (zs = ys ++ (k.fds.take j).flatMap fdN)) (fun jv _ => fn - (intOf jv).toNat)
      case atStart => exact ⟨0, m3, cd, Ad, ys, Nat.zero_le _, rfl, HNd, HQd, Lib.hid (by simp)⟩
      case round =>
        clear HNd HQd HKd
        obtain ⟨j, m4, c4, A4, zs, hj, rfl, HN, HQ, HZ⟩ := hrel
        obtain ⟨wx, rfl⟩ : ∃ z, z = wr := ⟨_, rfl⟩
        have hbx : w.heap.size + 2 ≤ wx.heap.size := by have := HQ.out.kx.size; have := HSZ.out; omega
        by_cases hjl : j < fn
        · obtain ⟨f, hf⟩ : ∃ f, k.fds[j]? = some f := ⟨_, List.getElem?_eq_getElem (by have := HKO.out.len; rw [HKV.out.2.2.1] at this; omega)⟩
          have hrd := (HKO.out.below ((HQ.out.lo (by have := HSZ.out; omega)).mono (by omega))).rd
          rw [HKV.out.2.1, HKV.out.2.2.1] at hrd
          obtain ⟨fb, fo, rfl, hfb, p0, p1, p2⟩ := hrd.fd hjl hf
          have hbd2 : m4 + 1 + f.nm.size + 2 ≤ 2 + L1 := by
            have h1 := take_flat fdN hf
            have h2 := HN.out.len
            rw [HZ.out] at h2
            have h3 : (fdN f).length = 1 + f.nm.size + 2 := by
              unfold fdN textF
              simp only [List.length_append, List.length_cons, List.length_nil, byteL_length]
              omega
            have h4 := HM3.out
            have h5 := HLF.out
            simp only [List.length_append] at h2
            omega
          have HF := Lib.hid hf
          clear hrd hf
          generalize hfnm : f.nm = fnm at *
          generalize hfbt : f.bits = fbt at *
          generalize hflo : f.low = flo at *
          have HFV := Lib.hid (And.intro hfnm (And.intro hfbt hflo))
          clear hfnm hfbt hflo
          obtain ⟨w5, hw5⟩ : ∃ w5, w5 = wx.alloc (.cells #[.string fnm, .int .i64 fbt, .int .i64 flo] 66) := ⟨_, rfl⟩
          have hB5 : Below wx.heap.size wx w5 := by rw [hw5]; exact (Below.refl _ _).alloc (Nat.le_refl _) _
          obtain ⟨hf, hhf⟩ : ∃ hf, hf = wx.heap.size := ⟨_, rfl⟩
          have HF5 : Hid (Bk w5 hf 66 #[.string fnm, .int .i64 fbt, .int .i64 flo]) := Lib.hid (by rw [hw5, hhf]; exact Bk.new _ _ _)
          have HN5 := Lib.hid (HN.out.below hB5)
          have HQ5 : Hid (NK w.heap.size W0 w5) := Lib.hid (HQ.out.trans (NK.of_below hB5))
          clear hB5
          go_upto_region 13 with fail
          rw [← hw5, ← hhf]
          clear hw5 hhf p0 p1 p2
          have e0 : w5.cell? ⟨hf, 0, none⟩ = some (.string fnm) := HF5.out.cell 0
          have hbX : w.heap.size + 2 ≤ w5.heap.size := by have := HQ5.out.kx.size; have := HSZ.out; omega
          have HT := Lib.hid (ntext_any gl (w.heap.size + 2) (m4) c4 A4 zs fnm w.heap.size w5 HN5.out (by omega) HGL.out (by omega) hbX)
          go_wp2_with fail
          refine HT.out.mono ?_
          clear HT hbX
          rintro e We ⟨Ae, ce, rfl, HNe, HPe⟩
          have HQe := Lib.hid (HQ5.out.trans HPe.out)
          have HFe : Hid (Bk We hf 66 #[.string fnm, .int .i64 fbt, .int .i64 flo]) := Lib.hid (HPe.out.kx.bk HF5.out (by decide))
          have e1 : We.cell? ⟨hf, 1, none⟩ = some (.int .i64 fbt) := HFe.out.cell 1
          have e2 : We.cell? ⟨hf, 2, none⟩ = some (.int .i64 flo) := HFe.out.cell 2
          clear e0 HN HN5 HQ5 HF5
          have c0 : We.cell? ⟨gl, 0, none⟩ = some (.slice Ae (m4 + 1 + fnm.size) ce) := HNe.out.bk.cell 0
          have hbX : w.heap.size + 2 ≤ We.heap.size := by have := HQe.out.kx.size; have := HSZ.out; omega
          go_upto_region 15 with
            (at_builtin
             go_must (refine wpList_append_rd _ rfl (.tmp 60) (.tmp 65) _ rfl (w.heap.size + 2) 3 i3 (.int .i64 0) 1 8 Try.underlying30 hi3 hz30 hz31 hz32 rfl (by decide) (.slice Ae (m4 + 1 + fnm.size) ce) ((m4 + 1 + fnm.size)) _ rfl (HNe.out.own.alloc _) (We.heap.size + 1) _ 2 2 [.int .i64 fbt, .int .i64 flo] rfl (Rd.new We 3 2 1 #[.int .i64 fbt, .int .i64 flo] rfl) ?c1 ?c2 ?c3 ?c4 ?_)
             case c1 => simp [Value.oneCell']
             case c2 => unfold maxLen; omega
             case c3 => omega
             case c4 => simp; omega
             intro Af cf vf hown hgr hat
             have hk3 := (HNe.out.bk.alloc (.cells #[.int .i64 fbt, .int .i64 flo] 3)).grown hgr (fun e => own_ne HNe.out.own HNe.out.bk (by decide) e.symm)
             have cB : vf.cell? ⟨gl, 0, none⟩ = some (.slice Ae (m4 + 1 + fnm.size) ce) := hk3.cell 0
             have fB : vf.frozen? ⟨gl, 0, none⟩ = false := hk3.frozen 0)
          have hp := HNe.out.push (B := w.heap.size) (w' := We.alloc (.cells #[.int .i64 fbt, .int .i64 flo] 3)) (n' := (m4 + 1 + fnm.size) + 2) (ys := [fbt, flo]) ((Below.refl _ _).alloc (Nat.le_refl _) _) (by rw [List.map_append]; exact hown) hgr rfl (by omega) HGL.out
          obtain ⟨Wf, hWf⟩ : ∃ z, z = vf.setCell ⟨gl, 0, none⟩ (.slice Af ((m4 + 1 + fnm.size) + 2) cf) := ⟨_, rfl⟩
          rw [← hWf] at hp
          have HNf := Lib.hid hp.1
          have HPf := Lib.hid hp.2
          have HQf := Lib.hid (HQe.out.trans hp.2)
          clear hp hown hgr hat hk3 c0 hbX e1 e2
          rw [← hWf]
          clear hWf cB fB
          have HZn : Hid (zs ++ textF fnm ++ [fbt, flo] = ys ++ (k.fds.take (j + 1)).flatMap fdN) := Lib.hid (by
            rw [List.take_add_one, HF.out, HZ.out]
            simp only [Option.toList, List.flatMap_append, List.flatMap_cons, List.flatMap_nil, List.append_nil, fdN, HFV.out.1, HFV.out.2.1, HFV.out.2.2, List.append_assoc])
          clear HNe HQe HPe HPf HFe HZ HQ
          go_wp2_with fail
          go_roundw
          case rel => exact ⟨j + 1, m4 + 1 + fnm.size + 2, cf, Af, _, by omega, by go_num, HNf, HQf, HZn⟩
          case measure => simp [intOf]; omega
        · obtain rfl : j = fn := by omega
          have HZ2 : Hid (zs = [Tk, (kn : Int)] ++ (p.ks.take (i + 1)).flatMap kdN) := Lib.hid (by
            have h1 := HKO.out.len
            rw [HKV.out.2.2.1] at h1
            rw [HZ.out, HYS.out, HE.out, List.take_add_one, HKP.out, List.take_of_length_le (Nat.le_of_eq h1.symm)]
            simp only [Option.toList, List.flatMap_append, List.flatMap_cons, List.flatMap_nil, List.append_nil, kdN, Kd.p, HKV.out.1, h1, List.append_assoc])
          clear HZ HYS
          go_wp2_with fail
          go_roundw
          case rel => exact ⟨i + 1, m4, c4, A4, zs, by omega, by go_num, HN, HQ, HZ2⟩
          case measure => simp [intOf]; omega
    · obtain rfl : kn = i := by omega
      have HA : Hid (xs = flatA Tk p) := Lib.hid (by
        have h1 : p.ks.length = kn := by rw [HP.out.1, List.length_map]; exact HKN.out.symm
        rw [HE.out, List.take_of_length_le (by omega)]
        unfold flatA
        rw [h1])
      have hm2 : m ≤ 2 + L1 := by
        have h1 := HN.out.len
        have h2 := HL.out.1
        rw [HA.out] at h1
        unfold flatA at h1
        simp only [List.length_append, List.length_cons, List.length_nil] at h1
        omega
      clear HE
      have HX1 : Hid (Bk wo w.heap.size 80 #[.int .i64 Tk, .slice kA kn kc, .slice gA gn gc, .slice iA im ic, .slice cA cn cc, .slice mA mn mc, .slice eA en ec]) := Lib.hid (HQ.out.kx.bk HX0.out (by decide))
      have d2 : wo.cell? ⟨w.heap.size, 2, none⟩ = some (.slice gA gn gc) := HX1.out.cell 2
      have hyr : Rd wo B 1 gA gn (gens.map (Value.int .i64)) := HGS.out.rd.below ((HQ.out.lo (by have := HSZ.out; omega)).mono (by omega))
      have HT := Lib.hid (nlist_any gl (w.heap.size + 2) m c B gn gc A gA xs gens w.heap.size wo HN.out hyr HGS.out.len HGS.out.cap HGS.out.cap2 (by omega) (by omega) HGL.out (by omega) hbw)
      clear hyr
      go_wp2_with fail
      refine HT.out.mono ?_
      clear HT d2
      rintro e Wg ⟨Ag, cg, rfl, HNg, HPg⟩
      have HQg := Lib.hid (HQ.out.trans HPg.out)
      have HXg : Hid (Bk Wg w.heap.size 80 #[.int .i64 Tk, .slice kA kn kc, .slice gA gn gc, .slice iA im ic, .slice cA cn cc, .slice mA mn mc, .slice eA en ec]) := Lib.hid (HPg.out.kx.bk HX1.out (by decide))
      have d3 : Wg.cell? ⟨w.heap.size, 3, none⟩ = some (.slice iA im ic) := HXg.out.cell 3
      clear HX1 HN HQ HPg
      have c0 : Wg.cell? ⟨gl, 0, none⟩ = some (.slice Ag (m + 1 + gn) cg) := HNg.out.bk.cell 0
      have hbX : w.heap.size + 2 ≤ Wg.heap.size := by have := HQg.out.kx.size; have := HSZ.out; omega
      go_upto_region 19 with
        (at_builtin
         go_must (refine wpList_append_rd _ rfl (.tmp 74) (.tmp 79) _ rfl (w.heap.size + 2) 3 i3 (.int .i64 0) 1 8 Try.underlying30 hi3 hz30 hz31 hz32 rfl (by decide) (.slice Ag (m + 1 + gn) cg) ((m + 1 + gn)) _ rfl (HNg.out.own.alloc _) (Wg.heap.size + 1) _ 1 1 [.int .i64 im] rfl (Rd.new Wg 3 1 1 #[.int .i64 im] rfl) ?c1 ?c2 ?c3 ?c4 ?_)
         case c1 => simp [Value.oneCell']
         case c2 => unfold maxLen; omega
         case c3 => omega
         case c4 => simp; omega
         intro Ah ch vh hown hgr hat
         have hk3 := (HNg.out.bk.alloc (.cells #[.int .i64 im] 3)).grown hgr (fun e => own_ne HNg.out.own HNg.out.bk (by decide) e.symm)
         have cB : vh.cell? ⟨gl, 0, none⟩ = some (.slice Ag (m + 1 + gn) cg) := hk3.cell 0
         have fB : vh.frozen? ⟨gl, 0, none⟩ = false := hk3.frozen 0)
      have hp := HNg.out.push (B := w.heap.size) (w' := Wg.alloc (.cells #[.int .i64 im] 3)) (n' := (m + 1 + gn) + 1) (ys := [(im : Int)]) ((Below.refl _ _).alloc (Nat.le_refl _) _) (by rw [List.map_append]; exact hown) hgr rfl (by omega) HGL.out
      obtain ⟨Wh, hWh⟩ : ∃ z, z = vh.setCell ⟨gl, 0, none⟩ (.slice Ah ((m + 1 + gn) + 1) ch) := ⟨_, rfl⟩
      rw [← hWh] at hp
      have HNh := Lib.hid hp.1
      have HPh := Lib.hid hp.2
      have HQh := Lib.hid (HQg.out.trans hp.2)
      clear hp hown hgr hat hk3 c0 hbX d3
      rw [← hWh]
      clear hWh cB fB
      have HXh : Hid (Bk Wh w.heap.size 80 #[.int .i64 Tk, .slice kA kn kc, .slice gA gn gc, .slice iA im ic, .slice cA cn cc, .slice mA mn mc, .slice eA en ec]) := Lib.hid (HPh.out.kx.bk HXg.out (by decide))
      have d3 : Wh.cell? ⟨w.heap.size, 3, none⟩ = some (.slice iA im ic) := HXh.out.cell 3
      go_wp2_with fail
      clear d3 HXg HNg HQg HPh HXh
      have HFB : Hid (xs ++ [(gn : Int)] ++ gens ++ [(im : Int)] = flatB Tk p) := Lib.hid (by
        have h1 : im = its.length := HIS.out.len
        have h2 : gn = gens.length := HGS.out.len
        unfold flatB
        rw [HA.out, HP.out.2.1, HP.out.2.2, List.length_map, h1, h2])
      rw [HFB.out] at HNh
      obtain ⟨m5, hm5⟩ : ∃ m5, m5 = m + 1 + gn + 1 := ⟨_, rfl⟩
      rw [← hm5] at HNh
      have hm5' : m5 ≤ 2 + L1 + 1 + gn + 1 := by omega
      have HM5 : Hid (m5 = (flatB Tk p).length) := Lib.hid HNh.out.len
      clear hm5 HFB HA
      go_loopw [85] (fun iv wr => ∃ (k m c : Nat) (A : Option Addr) (zs : List Int), k ≤ im ∧ iv = .int .i64 k ∧ Hid (NuI wr gl (w.heap.size + 2) A m c zs) ∧ Hid (NK w.heap.size W0 wr) ∧ Hid (zs = flatB Tk p ++ (p.its.take k).flatMap itN)) (fun iv _ => im - (intOf iv).toNat)
      case atStart => exact ⟨0, m5, ch, Ah, _, Nat.zero_le _, rfl, HNh, HQh, Lib.hid (by simp)⟩
      case round =>
        clear HNh HQh
        obtain ⟨k, m, c, A, zs, hk, rfl, HN, HQ, HZ⟩ := hrel
        obtain ⟨wo, rfl⟩ : ∃ z, z = wr := ⟨_, rfl⟩
        have hbw : w.heap.size + 2 ≤ wo.heap.size := by have := HQ.out.kx.size; have := HSZ.out; omega
        by_cases hlt : k < im
        · obtain ⟨it, hit⟩ : ∃ it, its[k]? = some it := ⟨_, List.getElem?_eq_getElem (by have := HIS.out.len; omega)⟩
          have hiso := HIS.out.below ((HQ.out.lo (by have := HSZ.out; omega)).mono (by omega))
          have hio := HIS.out.ok it (List.mem_of_getElem? hit)
          obtain ⟨b, o, rfl, hbb, q0, q1, q2⟩ := hiso.rd.it hlt hit
          have hip : p.its[k]? = some it.p := by rw [HP.out.2.2, List.getElem?_map, hit]; rfl
          have hbd : m + 3 + ((it.cms.map Cm.p).flatMap cmN).length ≤ 2 + L1 + 1 + gn + 1 + L3 := by
            have h1 := take_flat itN hip
            have h2 := HN.out.len
            rw [HZ.out] at h2
            have h3 : (itN it.p).length = 3 + ((it.cms.map Cm.p).flatMap cmN).length := by
              unfold itN It.p
              simp only [List.length_append, List.length_cons, List.length_nil]
            have h4 := HM5.out
            have h5 := HL.out.2.1
            simp only [List.length_append] at h2
            omega
          obtain ⟨LC, hLC⟩ : ∃ z, z = ((it.cms.map Cm.p).flatMap cmN).length := ⟨_, rfl⟩
          rw [← hLC] at hbd
          have hcl : it.n ≤ LC := by rw [hLC, hio.cs.len, ← List.length_map (f := Cm.p)]; exact len_flat cmN cmN_pos _
          have HLC := Lib.hid hLC
          clear hLC
          have HIP := Lib.hid hip
          have HIO := Lib.hid hio.cs
          clear hiso hio hip hit
          generalize hie : it.e = ie at *
          generalize hig : it.g = ig at *
          generalize hcA : it.A = qA at *
          generalize hcn : it.n = qn at *
          generalize hcc : it.c = qc at *
          have HIV := Lib.hid (And.intro hie (And.intro hig (And.intro hcA (And.intro hcn hcc))))
          clear hie hig hcA hcn hcc
          obtain ⟨w1, hw1⟩ : ∃ w1, w1 = wo.alloc (.cells #[.int .i64 ie, .int .i64 ig, .slice qA qn qc] 147) := ⟨_, rfl⟩
          have hB1 : Below wo.heap.size wo w1 := by rw [hw1]; exact (Below.refl _ _).alloc (Nat.le_refl _) _
          obtain ⟨hk1, hhk⟩ : ∃ hk, hk = wo.heap.size := ⟨_, rfl⟩
          have HK1 : Hid (Bk w1 hk1 147 #[.int .i64 ie, .int .i64 ig, .slice qA qn qc]) := Lib.hid (by rw [hw1, hhk]; exact Bk.new _ _ _)
          have HN1 := Lib.hid (HN.out.below hB1)
          have HQ1 : Hid (NK w.heap.size W0 w1) := Lib.hid (HQ.out.trans (NK.of_below hB1))
          clear hB1
          go_upto_region 22 with fail
          rw [← hw1, ← hhk]
          clear hw1 hhk q0 q1 q2
          have e0 : w1.cell? ⟨hk1, 0, none⟩ = some (.int .i64 ie) := HK1.out.cell 0
          have e1 : w1.cell? ⟨hk1, 1, none⟩ = some (.int .i64 ig) := HK1.out.cell 1
          have e2 : w1.cell? ⟨hk1, 2, none⟩ = some (.slice qA qn qc) := HK1.out.cell 2
          have c0 : w1.cell? ⟨gl, 0, none⟩ = some (.slice A m c) := HN1.out.bk.cell 0
          have hbX : w.heap.size + 2 ≤ w1.heap.size := by have := HQ1.out.kx.size; have := HSZ.out; omega
          go_upto_region 23 with
            (at_builtin
             go_must (refine wpList_append_rd _ rfl (.tmp 89) (.tmp 99) _ rfl (w.heap.size + 2) 3 i3 (.int .i64 0) 1 8 Try.underlying30 hi3 hz30 hz31 hz32 rfl (by decide) (.slice A m c) (m) _ rfl (HN1.out.own.alloc _) (w1.heap.size + 1) _ 3 3 [.int .i64 ie, .int .i64 ig, .int .i64 qn] rfl (Rd.new w1 3 3 1 #[.int .i64 ie, .int .i64 ig, .int .i64 qn] rfl) ?c1 ?c2 ?c3 ?c4 ?_)
             case c1 => simp [Value.oneCell']
             case c2 => unfold maxLen; omega
             case c3 => omega
             case c4 => simp; omega
             intro Ai ci vi hown hgr hat
             have hk3 := (HN1.out.bk.alloc (.cells #[.int .i64 ie, .int .i64 ig, .int .i64 qn] 3)).grown hgr (fun e => own_ne HN1.out.own HN1.out.bk (by decide) e.symm)
             have cB : vi.cell? ⟨gl, 0, none⟩ = some (.slice A m c) := hk3.cell 0
             have fB : vi.frozen? ⟨gl, 0, none⟩ = false := hk3.frozen 0)
          have hp := HN1.out.push (B := w.heap.size) (w' := w1.alloc (.cells #[.int .i64 ie, .int .i64 ig, .int .i64 qn] 3)) (n' := m + 3) (ys := [ie, ig, (qn : Int)]) ((Below.refl _ _).alloc (Nat.le_refl _) _) (by rw [List.map_append]; exact hown) hgr rfl (by omega) HGL.out
          obtain ⟨Wi, hWi⟩ : ∃ z, z = vi.setCell ⟨gl, 0, none⟩ (.slice Ai (m + 3) ci) := ⟨_, rfl⟩
          rw [← hWi] at hp
          have HNi := Lib.hid hp.1
          have HPi := Lib.hid hp.2
          have HQi := Lib.hid (HQ1.out.trans hp.2)
          clear hp hown hgr hat hk3 c0 hbX e0 e1 e2
          rw [← hWi]
          clear hWi cB fB
          have HKi : Hid (Bk Wi hk1 147 #[.int .i64 ie, .int .i64 ig, .slice qA qn qc]) := Lib.hid (HPi.out.kx.bk HK1.out (by decide))
          have e2 : Wi.cell? ⟨hk1, 2, none⟩ = some (.slice qA qn qc) := HKi.out.cell 2
          go_wp2_with fail
          clear e2 HN HN1 HQ1 HK1 HPi
          obtain ⟨ys, hys⟩ : ∃ ys, ys = zs ++ [ie, ig, (qn : Int)] := ⟨_, rfl⟩
          rw [← hys] at HNi
          have HYS := Lib.hid hys
          have HM3 : Hid (m + 3 = ys.length) := Lib.hid HNi.out.len
          clear hys
          go_loopw [104] (fun jv wx => ∃ (j m4 c4 : Nat) (A4 : Option Addr) (us : List Int), j ≤ qn ∧ jv = .int .i64 j ∧ Hid (NuI wx gl (w.heap.size + 2) A4 m4 c4 us) ∧ Hid (NK w.heap.size W0 wx) ∧ Hid (us = ys ++ ((it.cms.map Cm.p).take j).flatMap cmN)) (fun jv _ => qn - (intOf jv).toNat)
          case atStart => exact ⟨0, m + 3, ci, Ai, ys, Nat.zero_le _, rfl, HNi, HQi, Lib.hid (by simp)⟩
          case round =>
            clear HNi HQi HKi
            obtain ⟨j, m4, c4, A4, us, hj, rfl, HN, HQ, HU⟩ := hrel
            obtain ⟨wx, rfl⟩ : ∃ z, z = wr := ⟨_, rfl⟩
            have hbx : w.heap.size + 2 ≤ wx.heap.size := by have := HQ.out.kx.size; have := HSZ.out; omega
            by_cases hjl : j < qn
            · obtain ⟨q, hq⟩ : ∃ q, it.cms[j]? = some q := ⟨_, List.getElem?_eq_getElem (by have := HIO.out.len; omega)⟩
              have hco := HIO.out.below ((HQ.out.lo (by have := HSZ.out; omega)).mono (by omega))
              have hqo := hco.ok q (List.mem_of_getElem? hq)
              obtain ⟨fb, fo, rfl, hfb, p0, p1⟩ := hco.rd.cm hjl hq
              have hv8 : m4 + 2 + q.n ≤ 2 + L1 + 1 + gn + 1 + L3 := by
                have hqp : (it.cms.map Cm.p)[j]? = some q.p := by rw [List.getElem?_map, hq]; rfl
                have h1 := take_flat cmN hqp
                have h2 := HN.out.len
                rw [HU.out] at h2
                have h3 : (cmN q.p).length = 2 + q.n := by
                  unfold cmN Cm.p
                  simp only [List.length_append, List.length_cons, List.length_nil, hqo.len]
                have h4 := HM3.out
                have h5 := HLC.out
                simp only [List.length_append] at h2
                omega
              have HQO := Lib.hid hqo
              have HQQ := Lib.hid hq
              clear hco hqo hq
              generalize hqk : q.k = qk at *
              generalize hqA : q.A = vA at *
              generalize hqn : q.n = vn at *
              generalize hqc : q.c = vc at *
              have HQV := Lib.hid (And.intro hqk (And.intro hqA (And.intro hqn hqc)))
              clear hqk hqA hqn hqc
              obtain ⟨w5, hw5⟩ : ∃ w5, w5 = wx.alloc (.cells #[.int .i64 qk, .slice vA vn vc] 166) := ⟨_, rfl⟩
              have hB5 : Below wx.heap.size wx w5 := by rw [hw5]; exact (Below.refl _ _).alloc (Nat.le_refl _) _
              obtain ⟨hf, hhf⟩ : ∃ hf, hf = wx.heap.size := ⟨_, rfl⟩
              have HF5 : Hid (Bk w5 hf 166 #[.int .i64 qk, .slice vA vn vc]) := Lib.hid (by rw [hw5, hhf]; exact Bk.new _ _ _)
              have HN5 := Lib.hid (HN.out.below hB5)
              have HQ5 : Hid (NK w.heap.size W0 w5) := Lib.hid (HQ.out.trans (NK.of_below hB5))
              have hqo5 := HQO.out.rd.below (hB5.mono (by omega))
              have HR5 := Lib.hid hqo5
              clear hB5 hqo5
              go_upto_region 26 with fail
              rw [← hw5, ← hhf]
              clear hw5 hhf p0 p1
              have e0 : w5.cell? ⟨hf, 0, none⟩ = some (.int .i64 qk) := HF5.out.cell 0
              have c0 : w5.cell? ⟨gl, 0, none⟩ = some (.slice A4 m4 c4) := HN5.out.bk.cell 0
              have hbX : w.heap.size + 2 ≤ w5.heap.size := by have := HQ5.out.kx.size; have := HSZ.out; omega
              go_upto_region 27 with
                (at_builtin
                 go_must (refine wpList_append_rd _ rfl (.tmp 108) (.tmp 111) _ rfl (w.heap.size + 2) 3 i3 (.int .i64 0) 1 8 Try.underlying30 hi3 hz30 hz31 hz32 rfl (by decide) (.slice A4 m4 c4) (m4) _ rfl (HN5.out.own.alloc _) (w5.heap.size + 1) _ 1 1 [.int .i64 qk] rfl (Rd.new w5 3 1 1 #[.int .i64 qk] rfl) ?c1 ?c2 ?c3 ?c4 ?_)
                 case c1 => simp [Value.oneCell']
                 case c2 => unfold maxLen; omega
                 case c3 => omega
                 case c4 => simp; omega
                 intro Aj cj vj hown hgr hat
                 have hk3 := (HN5.out.bk.alloc (.cells #[.int .i64 qk] 3)).grown hgr (fun e => own_ne HN5.out.own HN5.out.bk (by decide) e.symm)
                 have cB : vj.cell? ⟨gl, 0, none⟩ = some (.slice A4 m4 c4) := hk3.cell 0
                 have fB : vj.frozen? ⟨gl, 0, none⟩ = false := hk3.frozen 0)
              have hp := HN5.out.push (B := w.heap.size) (w' := w5.alloc (.cells #[.int .i64 qk] 3)) (n' := m4 + 1) (ys := [qk]) ((Below.refl _ _).alloc (Nat.le_refl _) _) (by rw [List.map_append]; exact hown) hgr rfl (by omega) HGL.out
              obtain ⟨Wj, hWj⟩ : ∃ z, z = vj.setCell ⟨gl, 0, none⟩ (.slice Aj (m4 + 1) cj) := ⟨_, rfl⟩
              rw [← hWj] at hp
              have HNj := Lib.hid hp.1
              have HPj := Lib.hid hp.2
              have HQj := Lib.hid (HQ5.out.trans hp.2)
              clear hp hown hgr hat hk3 c0 hbX e0
              rw [← hWj]
              clear hWj cB fB
              have HFj : Hid (Bk Wj hf 166 #[.int .i64 qk, .slice vA vn vc]) := Lib.hid (HPj.out.kx.bk HF5.out (by decide))
              have e1 : Wj.cell? ⟨hf, 1, none⟩ = some (.slice vA vn vc) := HFj.out.cell 1
              have hbj : w.heap.size + 2 ≤ Wj.heap.size := by have := HQj.out.kx.size; have := HSZ.out; omega
              have hrj : Rd Wj B 1 vA vn (q.vals.map (Value.int .i64)) := by
                have h := HR5.out.below ((HPj.out.lo (by have := HQ5.out.kx.size; have := HSZ.out; omega)).mono (by omega))
                rw [HQV.out.2.1, HQV.out.2.2.1] at h
                exact h
              have hl1 : vn = q.vals.length := by rw [← HQV.out.2.2.1]; exact HQO.out.len
              have hl2 : vn ≤ vc := by rw [← HQV.out.2.2.1, ← HQV.out.2.2.2]; exact HQO.out.cap
              have hl3 : vc ≤ 9223372036854775807 := by rw [← HQV.out.2.2.2]; exact HQO.out.cap2
              have HT := Lib.hid (nlist_any gl (w.heap.size + 2) (m4 + 1) cj B vn vc Aj vA (us ++ [qk]) q.vals w.heap.size Wj HNj.out hrj hl1 hl2 hl3 (by omega) (by omega) HGL.out (by omega) hbj)
              have HLV := Lib.hid hl1
              clear hrj hl1 hl2 hl3
              go_wp2_with fail
              refine HT.out.mono ?_
              clear HT e1
              rintro e Wk ⟨Ak, ck, rfl, HNk, HPk⟩
              have HQk := Lib.hid (HQj.out.trans HPk.out)
              have HUn : Hid (us ++ [qk] ++ [(vn : Int)] ++ q.vals = ys ++ ((it.cms.map Cm.p).take (j + 1)).flatMap cmN) := Lib.hid (by
                have h1 := HLV.out
                rw [List.take_add_one, List.getElem?_map, HQQ.out, HU.out]
                simp only [Option.map_some, Option.toList, List.flatMap_append, List.flatMap_cons, List.flatMap_nil, List.append_nil, cmN, Cm.p, HQV.out.1, h1, List.append_assoc, List.cons_append, List.nil_append])
              clear HNj HQj HPj HPk HFj HU HN HN5 HQ5 HF5 HR5
              go_wp2_with fail
              go_roundw
              case rel => exact ⟨j + 1, m4 + 1 + 1 + vn, ck, Ak, _, by omega, by go_num, HNk, HQk, HUn⟩
              case measure => simp [intOf]; omega
            · obtain rfl : qn = j := by omega
              have HZ2 : Hid (us = flatB Tk p ++ (p.its.take (k + 1)).flatMap itN) := Lib.hid (by
                have h1 := HIO.out.len
                have h3 : (it.cms.map Cm.p).length = it.cms.length := List.length_map _
                have h2 : it.p = ((it.e, it.g), it.cms.map Cm.p) := rfl
                rw [HU.out, HYS.out, HZ.out, List.take_add_one, HIP.out, h2, List.take_of_length_le (l := it.cms.map Cm.p) (by omega)]
                simp only [Option.toList, List.flatMap_append, List.flatMap_cons, List.flatMap_nil, List.append_nil, itN, HIV.out.1, HIV.out.2.1, h3, ← h1, List.append_assoc])
              clear HZ HYS HU
              go_wp2_with fail
              go_roundw
              case rel => exact ⟨k + 1, m4, c4, A4, us, by omega, by go_num, HN, HQ, HZ2⟩
              case measure => simp [intOf]; omega
        · obtain rfl : im = k := by omega
          have HZ2 : Hid (zs = flatB Tk p ++ p.its.flatMap itN) := Lib.hid (by
            have h1 : im = its.length := HIS.out.len
            have h2 : p.its.length = im := by rw [HP.out.2.2, List.length_map]; exact h1.symm
            rw [HZ.out, List.take_of_length_le (by omega)])
          clear HZ
          have hm2 : m ≤ 2 + L1 + 1 + gn + 1 + L3 := by
            have h1 := HN.out.len
            have h2 := HM5.out
            have h3 := HL.out.2.1
            rw [HZ2.out] at h1
            simp only [List.length_append] at h1
            omega
          clear HM5
          have HX1 : Hid (Bk wo w.heap.size 80 #[.int .i64 Tk, .slice kA kn kc, .slice gA gn gc, .slice iA im ic, .slice cA cn cc, .slice mA mn mc, .slice eA en ec]) := Lib.hid (HQ.out.kx.bk HX0.out (by decide))
          have d1 : wo.cell? ⟨w.heap.size, 4, none⟩ = some (.slice cA cn cc) := HX1.out.cell 4
          have hnl : cn ≤ L4 := by rw [HL.out.2.2.1, HCS.out.len]; exact len_rows _ (fun x hx => by have := HCS.out.ok x hx; omega)
          have c0 : wo.cell? ⟨gl, 0, none⟩ = some (.slice A m c) := HN.out.bk.cell 0
          have hbX : w.heap.size + 2 ≤ wo.heap.size := by have := HQ.out.kx.size; have := HSZ.out; omega
          go_upto_region 31 with
            (at_builtin
             go_must (refine wpList_append_rd _ rfl (.tmp 119) (.tmp 123) _ rfl (w.heap.size + 2) 3 i3 (.int .i64 0) 1 8 Try.underlying30 hi3 hz30 hz31 hz32 rfl (by decide) (.slice A m c) (m) _ rfl (HN.out.own.alloc _) (wo.heap.size + 1) _ 1 1 [.int .i64 cn] rfl (Rd.new wo 3 1 1 #[.int .i64 cn] rfl) ?c1 ?c2 ?c3 ?c4 ?_)
             case c1 => simp [Value.oneCell']
             case c2 => unfold maxLen; omega
             case c3 => omega
             case c4 => simp; omega
             intro Ar cr vr hown hgr hat
             have hk3 := (HN.out.bk.alloc (.cells #[.int .i64 cn] 3)).grown hgr (fun e => own_ne HN.out.own HN.out.bk (by decide) e.symm)
             have cB : vr.cell? ⟨gl, 0, none⟩ = some (.slice A m c) := hk3.cell 0
             have fB : vr.frozen? ⟨gl, 0, none⟩ = false := hk3.frozen 0)
          have hp := HN.out.push (B := w.heap.size) (w' := wo.alloc (.cells #[.int .i64 cn] 3)) (n' := m + 1) (ys := [(cn : Int)]) ((Below.refl _ _).alloc (Nat.le_refl _) _) (by rw [List.map_append]; exact hown) hgr rfl (by omega) HGL.out
          obtain ⟨Wr, hWr⟩ : ∃ z, z = vr.setCell ⟨gl, 0, none⟩ (.slice Ar (m + 1) cr) := ⟨_, rfl⟩
          rw [← hWr] at hp
          have HNr := Lib.hid hp.1
          have HPr := Lib.hid hp.2
          have HQr := Lib.hid (HQ.out.trans hp.2)
          clear hp hown hgr hat hk3 c0 hbX d1
          rw [← hWr]
          clear hWr cB fB
          have HXr : Hid (Bk Wr w.heap.size 80 #[.int .i64 Tk, .slice kA kn kc, .slice gA gn gc, .slice iA im ic, .slice cA cn cc, .slice mA mn mc, .slice eA en ec]) := Lib.hid (HPr.out.kx.bk HX1.out (by decide))
          have d1 : Wr.cell? ⟨w.heap.size, 4, none⟩ = some (.slice cA cn cc) := HXr.out.cell 4
          go_wp2_with fail
          clear d1 HX1 HXr HPr HN HQ
          have HMa : Hid (m + 1 = (flatB Tk p ++ p.its.flatMap itN ++ [(cn : Int)]).length) := Lib.hid (by have := HNr.out.len; rw [HZ2.out] at this; exact this)
          have hmm : m + 1 ≤ 2 + L1 + 1 + gn + 1 + L3 + 1 := by omega
          go_loopw [128] (fun iv wr => ∃ (q m c : Nat) (A : Option Addr) (us : List Int), q ≤ cn ∧ iv = .int .i64 q ∧ Hid (NuI wr gl (w.heap.size + 2) A m c us) ∧ Hid (NK w.heap.size W0 wr) ∧ Hid (us = flatB Tk p ++ p.its.flatMap itN ++ [(cn : Int)] ++ (cts.take q).flatMap id)) (fun iv _ => cn - (intOf iv).toNat)
          case atStart => exact ⟨0, m + 1, cr, Ar, _, Nat.zero_le _, rfl, HNr, HQr, Lib.hid (by rw [HZ2.out]; simp)⟩
          case round =>
            clear HNr HQr HZ2
            obtain ⟨q, m, c, A, us, hq, rfl, HN, HQ, HU⟩ := hrel
            obtain ⟨wo, rfl⟩ : ∃ z, z = wr := ⟨_, rfl⟩
            have hbw : w.heap.size + 2 ≤ wo.heap.size := by have := HQ.out.kx.size; have := HSZ.out; omega
            by_cases hlt : q < cn
            · have hso := HCS.out.below ((HQ.out.lo (by have := HSZ.out; omega)).mono (by omega))
              obtain ⟨x, hx⟩ : ∃ x, cts[q]? = some x := ⟨_, List.getElem?_eq_getElem (by have := HCS.out.len; omega)⟩
              obtain ⟨b, o, rfl, hbb, hcx⟩ := hso.at_ hlt hx
              obtain ⟨a0, a1, a2, a3, a4, a5, a6, a7, a8, a9, rfl⟩ := len10 x (HCS.out.ok x (List.mem_of_getElem? hx))
              have q0 : wo.cell? ⟨b, o + q * 10, none⟩ = some (.int .i64 a0) := hcx 0 a0 rfl
              have q1 : wo.cell? ⟨b, o + q * 10 + 1, none⟩ = some (.int .i64 a1) := hcx 1 a1 rfl
              have q2 : wo.cell? ⟨b, o + q * 10 + 2, none⟩ = some (.int .i64 a2) := hcx 2 a2 rfl
              have q3 : wo.cell? ⟨b, o + q * 10 + 3, none⟩ = some (.int .i64 a3) := hcx 3 a3 rfl
              have q4 : wo.cell? ⟨b, o + q * 10 + 4, none⟩ = some (.int .i64 a4) := hcx 4 a4 rfl
              have q5 : wo.cell? ⟨b, o + q * 10 + 5, none⟩ = some (.int .i64 a5) := hcx 5 a5 rfl
              have q6 : wo.cell? ⟨b, o + q * 10 + 6, none⟩ = some (.int .i64 a6) := hcx 6 a6 rfl
              have q7 : wo.cell? ⟨b, o + q * 10 + 7, none⟩ = some (.int .i64 a7) := hcx 7 a7 rfl
              have q8 : wo.cell? ⟨b, o + q * 10 + 8, none⟩ = some (.int .i64 a8) := hcx 8 a8 rfl
              have q9 : wo.cell? ⟨b, o + q * 10 + 9, none⟩ = some (.int .i64 a9) := hcx 9 a9 rfl
              have hbd : m + 10 ≤ 2 + L1 + 1 + gn + 1 + L3 + 1 + L4 := by
                have h1 := take_flat id hx
                have h2 := HN.out.len
                rw [HU.out] at h2
                have h4 := HMa.out
                have h5 := HL.out.2.2.1
                have h3 : (id [a0, a1, a2, a3, a4, a5, a6, a7, a8, a9]).length = 10 := rfl
                simp only [List.length_append] at h2 h4
                omega
              have HX := Lib.hid hx
              clear hso hcx hx
              obtain ⟨v1, hv1⟩ : ∃ z, z = wo.alloc (.cells #[.int .i64 a0, .int .i64 a1, .int .i64 a2, .int .i64 a3, .int .i64 a4, .int .i64 a5, .int .i64 a6, .int .i64 a7, .int .i64 a8, .int .i64 a9] 131) := ⟨_, rfl⟩
              have hB1 : Below wo.heap.size wo v1 := by rw [hv1]; exact (Below.refl _ _).alloc (Nat.le_refl _) _
              obtain ⟨hk1, hhk⟩ : ∃ z, z = wo.heap.size := ⟨_, rfl⟩
              have HK1 : Hid (Bk v1 hk1 131 #[.int .i64 a0, .int .i64 a1, .int .i64 a2, .int .i64 a3, .int .i64 a4, .int .i64 a5, .int .i64 a6, .int .i64 a7, .int .i64 a8, .int .i64 a9]) := Lib.hid (by rw [hv1, hhk]; exact Bk.new _ _ _)
              have HN1 := Lib.hid (HN.out.below hB1)
              have HQ1 : Hid (NK w.heap.size W0 v1) := Lib.hid (HQ.out.trans (NK.of_below hB1))
              clear hB1
              go_upto_region 34 with fail
              rw [← hv1, ← hhk]
              clear hv1 hhk q0 q1 q2 q3 q4 q5 q6 q7 q8 q9
              have e0 : v1.cell? ⟨hk1, 0, none⟩ = some (.int .i64 a0) := HK1.out.cell 0
              have e1 : v1.cell? ⟨hk1, 1, none⟩ = some (.int .i64 a1) := HK1.out.cell 1
              have e2 : v1.cell? ⟨hk1, 2, none⟩ = some (.int .i64 a2) := HK1.out.cell 2
              have c0 : v1.cell? ⟨gl, 0, none⟩ = some (.slice A m c) := HN1.out.bk.cell 0
              have hbX : w.heap.size + 2 ≤ v1.heap.size := by have := HQ1.out.kx.size; have := HSZ.out; omega
              go_upto_region 35 with
                (at_builtin
                 go_must (refine wpList_append_rd _ rfl (.tmp 132) (.tmp 139) _ rfl (w.heap.size + 2) 3 i3 (.int .i64 0) 1 8 Try.underlying30 hi3 hz30 hz31 hz32 rfl (by decide) (.slice A m c) (m) _ rfl (HN1.out.own.alloc _) (v1.heap.size + 1) _ 3 3 [.int .i64 a0, .int .i64 a1, .int .i64 a2] rfl (Rd.new v1 3 3 1 #[.int .i64 a0, .int .i64 a1, .int .i64 a2] rfl) ?c1 ?c2 ?c3 ?c4 ?_)
                 case c1 => simp [Value.oneCell']
                 case c2 => unfold maxLen; omega
                 case c3 => omega
                 case c4 => simp; omega
                 intro Ao co vo hown hgr hat
                 have hk3 := (HN1.out.bk.alloc (.cells #[.int .i64 a0, .int .i64 a1, .int .i64 a2] 3)).grown hgr (fun e => own_ne HN1.out.own HN1.out.bk (by decide) e.symm)
                 have cB : vo.cell? ⟨gl, 0, none⟩ = some (.slice A m c) := hk3.cell 0
                 have fB : vo.frozen? ⟨gl, 0, none⟩ = false := hk3.frozen 0)
              have hp := HN1.out.push (B := w.heap.size) (w' := v1.alloc (.cells #[.int .i64 a0, .int .i64 a1, .int .i64 a2] 3)) (n' := m + 3) (ys := [a0, a1, a2]) ((Below.refl _ _).alloc (Nat.le_refl _) _) (by rw [List.map_append]; exact hown) hgr rfl (by omega) HGL.out
              obtain ⟨Wo, hWo⟩ : ∃ z, z = vo.setCell ⟨gl, 0, none⟩ (.slice Ao (m + 3) co) := ⟨_, rfl⟩
              rw [← hWo] at hp
              have HNo := Lib.hid hp.1
              have HPo := Lib.hid hp.2
              have HQo := Lib.hid (HQ1.out.trans hp.2)
              clear hp hown hgr hat hk3 c0 hbX e0 e1 e2
              rw [← hWo]
              clear hWo cB fB
              have HKo : Hid (Bk Wo hk1 131 #[.int .i64 a0, .int .i64 a1, .int .i64 a2, .int .i64 a3, .int .i64 a4, .int .i64 a5, .int .i64 a6, .int .i64 a7, .int .i64 a8, .int .i64 a9]) := Lib.hid (HPo.out.kx.bk HK1.out (by decide))
              have e3 : Wo.cell? ⟨hk1, 3, none⟩ = some (.int .i64 a3) := HKo.out.cell 3
              have e4 : Wo.cell? ⟨hk1, 4, none⟩ = some (.int .i64 a4) := HKo.out.cell 4
              have e5 : Wo.cell? ⟨hk1, 5, none⟩ = some (.int .i64 a5) := HKo.out.cell 5
              have e6 : Wo.cell? ⟨hk1, 6, none⟩ = some (.int .i64 a6) := HKo.out.cell 6
              have c0 : Wo.cell? ⟨gl, 0, none⟩ = some (.slice Ao (m + 3) co) := HNo.out.bk.cell 0
              have hbX : w.heap.size + 2 ≤ Wo.heap.size := by have := HQo.out.kx.size; have := HSZ.out; omega
              go_upto_region 36 with
                (at_builtin
                 go_must (refine wpList_append_rd _ rfl (.tmp 141) (.tmp 154) _ rfl (w.heap.size + 2) 3 i3 (.int .i64 0) 1 8 Try.underlying30 hi3 hz30 hz31 hz32 rfl (by decide) (.slice Ao (m + 3) co) ((m + 3)) _ rfl (HNo.out.own.alloc _) (Wo.heap.size + 1) _ 4 4 [.int .i64 a3, .int .i64 a4, .int .i64 a5, .int .i64 a6] rfl (Rd.new Wo 3 4 1 #[.int .i64 a3, .int .i64 a4, .int .i64 a5, .int .i64 a6] rfl) ?c1 ?c2 ?c3 ?c4 ?_)
                 case c1 => simp [Value.oneCell']
                 case c2 => unfold maxLen; omega
                 case c3 => omega
                 case c4 => simp; omega
                 intro Ap cp vp hown hgr hat
                 have hk3 := (HNo.out.bk.alloc (.cells #[.int .i64 a3, .int .i64 a4, .int .i64 a5, .int .i64 a6] 3)).grown hgr (fun e => own_ne HNo.out.own HNo.out.bk (by decide) e.symm)
                 have cB : vp.cell? ⟨gl, 0, none⟩ = some (.slice Ao (m + 3) co) := hk3.cell 0
                 have fB : vp.frozen? ⟨gl, 0, none⟩ = false := hk3.frozen 0)
              have hp := HNo.out.push (B := w.heap.size) (w' := Wo.alloc (.cells #[.int .i64 a3, .int .i64 a4, .int .i64 a5, .int .i64 a6] 3)) (n' := (m + 3) + 4) (ys := [a3, a4, a5, a6]) ((Below.refl _ _).alloc (Nat.le_refl _) _) (by rw [List.map_append]; exact hown) hgr rfl (by omega) HGL.out
              obtain ⟨Wp, hWp⟩ : ∃ z, z = vp.setCell ⟨gl, 0, none⟩ (.slice Ap ((m + 3) + 4) cp) := ⟨_, rfl⟩
              rw [← hWp] at hp
              have HNp := Lib.hid hp.1
              have HPp := Lib.hid hp.2
              have HQp := Lib.hid (HQo.out.trans hp.2)
              clear hp hown hgr hat hk3 c0 hbX e3 e4 e5 e6
              rw [← hWp]
              clear hWp cB fB
              have HKp : Hid (Bk Wp hk1 131 #[.int .i64 a0, .int .i64 a1, .int .i64 a2, .int .i64 a3, .int .i64 a4, .int .i64 a5, .int .i64 a6, .int .i64 a7, .int .i64 a8, .int .i64 a9]) := Lib.hid (HPp.out.kx.bk HKo.out (by decide))
              have e7 : Wp.cell? ⟨hk1, 7, none⟩ = some (.int .i64 a7) := HKp.out.cell 7
              have e8 : Wp.cell? ⟨hk1, 8, none⟩ = some (.int .i64 a8) := HKp.out.cell 8
              have e9 : Wp.cell? ⟨hk1, 9, none⟩ = some (.int .i64 a9) := HKp.out.cell 9
              have c0 : Wp.cell? ⟨gl, 0, none⟩ = some (.slice Ap (m + 3 + 4) cp) := HNp.out.bk.cell 0
              have hbX : w.heap.size + 2 ≤ Wp.heap.size := by have := HQp.out.kx.size; have := HSZ.out; omega
              go_upto_region 37 with
                (at_builtin
                 go_must (refine wpList_append_rd _ rfl (.tmp 156) (.tmp 163) _ rfl (w.heap.size + 2) 3 i3 (.int .i64 0) 1 8 Try.underlying30 hi3 hz30 hz31 hz32 rfl (by decide) (.slice Ap (m + 3 + 4) cp) ((m + 3 + 4)) _ rfl (HNp.out.own.alloc _) (Wp.heap.size + 1) _ 3 3 [.int .i64 a7, .int .i64 a8, .int .i64 a9] rfl (Rd.new Wp 3 3 1 #[.int .i64 a7, .int .i64 a8, .int .i64 a9] rfl) ?c1 ?c2 ?c3 ?c4 ?_)
                 case c1 => simp [Value.oneCell']
                 case c2 => unfold maxLen; omega
                 case c3 => omega
                 case c4 => simp; omega
                 intro Aq cq vq hown hgr hat
                 have hk3 := (HNp.out.bk.alloc (.cells #[.int .i64 a7, .int .i64 a8, .int .i64 a9] 3)).grown hgr (fun e => own_ne HNp.out.own HNp.out.bk (by decide) e.symm)
                 have cB : vq.cell? ⟨gl, 0, none⟩ = some (.slice Ap (m + 3 + 4) cp) := hk3.cell 0
                 have fB : vq.frozen? ⟨gl, 0, none⟩ = false := hk3.frozen 0)
              have hp := HNp.out.push (B := w.heap.size) (w' := Wp.alloc (.cells #[.int .i64 a7, .int .i64 a8, .int .i64 a9] 3)) (n' := (m + 3 + 4) + 3) (ys := [a7, a8, a9]) ((Below.refl _ _).alloc (Nat.le_refl _) _) (by rw [List.map_append]; exact hown) hgr rfl (by omega) HGL.out
              obtain ⟨Wq, hWq⟩ : ∃ z, z = vq.setCell ⟨gl, 0, none⟩ (.slice Aq ((m + 3 + 4) + 3) cq) := ⟨_, rfl⟩
              rw [← hWq] at hp
              have HNq := Lib.hid hp.1
              have HPq := Lib.hid hp.2
              have HQq := Lib.hid (HQp.out.trans hp.2)
              clear hp hown hgr hat hk3 c0 hbX e7 e8 e9
              rw [← hWq]
              clear hWq cB fB
              have HKq : Hid (Bk Wq hk1 131 #[.int .i64 a0, .int .i64 a1, .int .i64 a2, .int .i64 a3, .int .i64 a4, .int .i64 a5, .int .i64 a6, .int .i64 a7, .int .i64 a8, .int .i64 a9]) := Lib.hid (HPq.out.kx.bk HKp.out (by decide))
              have HUn : Hid (us ++ [a0, a1, a2] ++ [a3, a4, a5, a6] ++ [a7, a8, a9] = flatB Tk p ++ p.its.flatMap itN ++ [(cn : Int)] ++ (cts.take (q + 1)).flatMap id) := Lib.hid (by
                rw [List.take_add_one, HX.out, HU.out]
                simp only [Option.toList, List.flatMap_append, List.flatMap_cons, List.flatMap_nil, List.append_nil, id, List.append_assoc, List.cons_append, List.nil_append])
              clear HN1 HQ1 HK1 HU HN HQ HPo HKo HNo HQo HPp HKp HNp HQp HPq HKq
              go_wp2_with fail
              go_roundw
              case rel => exact ⟨q + 1, m + 3 + 4 + 3, cq, Aq, _, by omega, by go_num, HNq, HQq, HUn⟩
              case measure => simp [intOf]; omega
            · obtain rfl : cn = q := by omega
              have HZ3 : Hid (us = flatB Tk p ++ p.its.flatMap itN ++ [(cn : Int)] ++ cts.flatMap id) := Lib.hid (by rw [HU.out, List.take_of_length_le (by rw [← HCS.out.len]; exact Nat.le_refl _)])
              have hm2 : m ≤ 2 + L1 + 1 + gn + 1 + L3 + 1 + L4 := by
                have h1 := HN.out.len
                have h4 := HMa.out
                have h5 := HL.out.2.2.1
                rw [HZ3.out] at h1
                simp only [List.length_append] at h1 h4
                omega
              clear HU HMa hmm
              have HX1 : Hid (Bk wo w.heap.size 80 #[.int .i64 Tk, .slice kA kn kc, .slice gA gn gc, .slice iA im ic, .slice cA cn cc, .slice mA mn mc, .slice eA en ec]) := Lib.hid (HQ.out.kx.bk HX0.out (by decide))
              have d1 : wo.cell? ⟨w.heap.size, 5, none⟩ = some (.slice mA mn mc) := HX1.out.cell 5
              have hnl : mn ≤ L5 := by rw [HL.out.2.2.2.1, HMS.out.len]; exact (by rw [← List.length_map (f := Mdm.p)]; exact len_flat mdN mdN_pos _)
              have c0 : wo.cell? ⟨gl, 0, none⟩ = some (.slice A m c) := HN.out.bk.cell 0
              have hbX : w.heap.size + 2 ≤ wo.heap.size := by have := HQ.out.kx.size; have := HSZ.out; omega
              go_upto_region 39 with
                (at_builtin
                 go_must (refine wpList_append_rd _ rfl (.tmp 166) (.tmp 170) _ rfl (w.heap.size + 2) 3 i3 (.int .i64 0) 1 8 Try.underlying30 hi3 hz30 hz31 hz32 rfl (by decide) (.slice A m c) (m) _ rfl (HN.out.own.alloc _) (wo.heap.size + 1) _ 1 1 [.int .i64 mn] rfl (Rd.new wo 3 1 1 #[.int .i64 mn] rfl) ?c1 ?c2 ?c3 ?c4 ?_)
                 case c1 => simp [Value.oneCell']
                 case c2 => unfold maxLen; omega
                 case c3 => omega
                 case c4 => simp; omega
                 intro As cs vs hown hgr hat
                 have hk3 := (HN.out.bk.alloc (.cells #[.int .i64 mn] 3)).grown hgr (fun e => own_ne HN.out.own HN.out.bk (by decide) e.symm)
                 have cB : vs.cell? ⟨gl, 0, none⟩ = some (.slice A m c) := hk3.cell 0
                 have fB : vs.frozen? ⟨gl, 0, none⟩ = false := hk3.frozen 0)
              have hp := HN.out.push (B := w.heap.size) (w' := wo.alloc (.cells #[.int .i64 mn] 3)) (n' := m + 1) (ys := [(mn : Int)]) ((Below.refl _ _).alloc (Nat.le_refl _) _) (by rw [List.map_append]; exact hown) hgr rfl (by omega) HGL.out
              obtain ⟨Ws, hWs⟩ : ∃ z, z = vs.setCell ⟨gl, 0, none⟩ (.slice As (m + 1) cs) := ⟨_, rfl⟩
              rw [← hWs] at hp
              have HNs := Lib.hid hp.1
              have HPs := Lib.hid hp.2
              have HQs := Lib.hid (HQ.out.trans hp.2)
              clear hp hown hgr hat hk3 c0 hbX d1
              rw [← hWs]
              clear hWs cB fB
              have HXs : Hid (Bk Ws w.heap.size 80 #[.int .i64 Tk, .slice kA kn kc, .slice gA gn gc, .slice iA im ic, .slice cA cn cc, .slice mA mn mc, .slice eA en ec]) := Lib.hid (HPs.out.kx.bk HX1.out (by decide))
              have d1 : Ws.cell? ⟨w.heap.size, 5, none⟩ = some (.slice mA mn mc) := HXs.out.cell 5
              go_wp2_with fail
              clear d1 HX1 HXs HPs HN HQ
              have HMa : Hid (m + 1 = (flatB Tk p ++ p.its.flatMap itN ++ [(cn : Int)] ++ cts.flatMap id ++ [(mn : Int)]).length) := Lib.hid (by have := HNs.out.len; rw [HZ3.out] at this; exact this)
              have hmm : m + 1 ≤ 2 + L1 + 1 + gn + 1 + L3 + 1 + L4 + 1 := by omega
              go_loopw [175] (fun iv wr => ∃ (q m c : Nat) (A : Option Addr) (us : List Int), q ≤ mn ∧ iv = .int .i64 q ∧ Hid (NuI wr gl (w.heap.size + 2) A m c us) ∧ Hid (NK w.heap.size W0 wr) ∧ Hid (us = flatB Tk p ++ p.its.flatMap itN ++ [(cn : Int)] ++ cts.flatMap id ++ [(mn : Int)] ++ ((mds.map Mdm.p).take q).flatMap mdN)) (fun iv _ => mn - (intOf iv).toNat)
              case atStart => exact ⟨0, m + 1, cs, As, _, Nat.zero_le _, rfl, HNs, HQs, Lib.hid (by rw [HZ3.out]; simp)⟩
              case round =>
                clear HNs HQs HZ3
                obtain ⟨q, m, c, A, us, hq, rfl, HN, HQ, HU⟩ := hrel
                obtain ⟨wo, rfl⟩ : ∃ z, z = wr := ⟨_, rfl⟩
                have hbw : w.heap.size + 2 ≤ wo.heap.size := by have := HQ.out.kx.size; have := HSZ.out; omega
                by_cases hlt : q < mn
                · have hso := HMS.out.below ((HQ.out.lo (by have := HSZ.out; omega)).mono (by omega))
                  obtain ⟨x, hx⟩ : ∃ x, mds[q]? = some x := ⟨_, List.getElem?_eq_getElem (by have := HMS.out.len; omega)⟩
                  obtain ⟨b, o, rfl, hbb, q0, q1, q2, q3⟩ := hso.at_ hlt hx
                  have hxo := hso.ok x (List.mem_of_getElem? hx)
                  have hxp : (mds.map Mdm.p)[q]? = some x.p := by rw [List.getElem?_map, hx]; rfl
                  have hbd : m + 4 + x.k ≤ 2 + L1 + 1 + gn + 1 + L3 + 1 + L4 + 1 + L5 := by
                    have h1 := take_flat mdN hxp
                    have h2 := HN.out.len
                    rw [HU.out] at h2
                    have h4 := HMa.out
                    have h5 := HL.out.2.2.2.1
                    have h3 : (mdN x.p).length = 4 + x.k := by
                      unfold mdN Mdm.p
                      simp only [List.length_append, List.length_cons, List.length_nil, hxo.len]
                    simp only [List.length_append] at h2 h4
                    omega
                  have HX := Lib.hid hxp
                  have HXO := Lib.hid hxo
                  clear hxo hso hx hxp
                  generalize han : x.n = an at *
                  generalize hag : x.g = ag at *
                  generalize haq : x.q = aq at *
                  generalize hSA : x.A = SA at *
                  generalize hsn : x.k = sn at *
                  generalize hsc : x.c = sc at *
                  have HXV := Lib.hid (And.intro han (And.intro hag (And.intro haq (And.intro hSA (And.intro hsn hsc)))))
                  clear han hag haq hSA hsn hsc
                  obtain ⟨v1, hv1⟩ : ∃ z, z = wo.alloc (.cells #[.int .i64 an, .int .i64 ag, .int .i64 aq, .slice SA sn sc] 225) := ⟨_, rfl⟩
                  have hB1 : Below wo.heap.size wo v1 := by rw [hv1]; exact (Below.refl _ _).alloc (Nat.le_refl _) _
                  obtain ⟨hk1, hhk⟩ : ∃ z, z = wo.heap.size := ⟨_, rfl⟩
                  have HK1 : Hid (Bk v1 hk1 225 #[.int .i64 an, .int .i64 ag, .int .i64 aq, .slice SA sn sc]) := Lib.hid (by rw [hv1, hhk]; exact Bk.new _ _ _)
                  have HN1 := Lib.hid (HN.out.below hB1)
                  have HQ1 : Hid (NK w.heap.size W0 v1) := Lib.hid (HQ.out.trans (NK.of_below hB1))
                  have HR1 := Lib.hid (HXO.out.rd.below (hB1.mono (by omega)))
                  clear hB1
                  go_upto_region 42 with fail
                  rw [← hv1, ← hhk]
                  clear hv1 hhk q0 q1 q2 q3
                  have e0 : v1.cell? ⟨hk1, 0, none⟩ = some (.int .i64 an) := HK1.out.cell 0
                  have e1 : v1.cell? ⟨hk1, 1, none⟩ = some (.int .i64 ag) := HK1.out.cell 1
                  have e2 : v1.cell? ⟨hk1, 2, none⟩ = some (.int .i64 aq) := HK1.out.cell 2
                  have c0 : v1.cell? ⟨gl, 0, none⟩ = some (.slice A m c) := HN1.out.bk.cell 0
                  have hbX : w.heap.size + 2 ≤ v1.heap.size := by have := HQ1.out.kx.size; have := HSZ.out; omega
                  go_upto_region 43 with
                    (at_builtin
                     go_must (refine wpList_append_rd _ rfl (.tmp 179) (.tmp 188) _ rfl (w.heap.size + 2) 3 i3 (.int .i64 0) 1 8 Try.underlying30 hi3 hz30 hz31 hz32 rfl (by decide) (.slice A m c) (m) _ rfl (HN1.out.own.alloc _) (v1.heap.size + 1) _ 3 3 [.int .i64 an, .int .i64 ag, .int .i64 aq] rfl (Rd.new v1 3 3 1 #[.int .i64 an, .int .i64 ag, .int .i64 aq] rfl) ?c1 ?c2 ?c3 ?c4 ?_)
                     case c1 => simp [Value.oneCell']
                     case c2 => unfold maxLen; omega
                     case c3 => omega
                     case c4 => simp; omega
                     intro Ao co vo hown hgr hat
                     have hk3 := (HN1.out.bk.alloc (.cells #[.int .i64 an, .int .i64 ag, .int .i64 aq] 3)).grown hgr (fun e => own_ne HN1.out.own HN1.out.bk (by decide) e.symm)
                     have cB : vo.cell? ⟨gl, 0, none⟩ = some (.slice A m c) := hk3.cell 0
                     have fB : vo.frozen? ⟨gl, 0, none⟩ = false := hk3.frozen 0)
                  have hp := HN1.out.push (B := w.heap.size) (w' := v1.alloc (.cells #[.int .i64 an, .int .i64 ag, .int .i64 aq] 3)) (n' := m + 3) (ys := [an, ag, aq]) ((Below.refl _ _).alloc (Nat.le_refl _) _) (by rw [List.map_append]; exact hown) hgr rfl (by omega) HGL.out
                  obtain ⟨Wo, hWo⟩ : ∃ z, z = vo.setCell ⟨gl, 0, none⟩ (.slice Ao (m + 3) co) := ⟨_, rfl⟩
                  rw [← hWo] at hp
                  have HNo := Lib.hid hp.1
                  have HPo := Lib.hid hp.2
                  have HQo := Lib.hid (HQ1.out.trans hp.2)
                  clear hp hown hgr hat hk3 c0 hbX e0 e1 e2
                  rw [← hWo]
                  clear hWo cB fB
                  have HKo : Hid (Bk Wo hk1 225 #[.int .i64 an, .int .i64 ag, .int .i64 aq, .slice SA sn sc]) := Lib.hid (HPo.out.kx.bk HK1.out (by decide))
                  have e3 : Wo.cell? ⟨hk1, 3, none⟩ = some (.slice SA sn sc) := HKo.out.cell 3
                  have hbj : w.heap.size + 2 ≤ Wo.heap.size := by have := HQo.out.kx.size; have := HSZ.out; omega
                  have hrj : Rd Wo B 1 SA sn (x.st.map (Value.int .i64)) := by
                    have h := HR1.out.below ((HPo.out.lo (by have := HQ1.out.kx.size; have := HSZ.out; omega)).mono (by omega))
                    rw [HXV.out.2.2.2.1, HXV.out.2.2.2.2.1] at h
                    exact h
                  have hl1 : sn = x.st.length := by rw [← HXV.out.2.2.2.2.1]; exact HXO.out.len
                  have hl2 : sn ≤ sc := by rw [← HXV.out.2.2.2.2.1, ← HXV.out.2.2.2.2.2]; exact HXO.out.cap
                  have hl3 : sc ≤ 9223372036854775807 := by rw [← HXV.out.2.2.2.2.2]; exact HXO.out.cap2
                  have HT := Lib.hid (nlist_any gl (w.heap.size + 2) (m + 3) co B sn sc Ao SA (us ++ [an, ag, aq]) x.st w.heap.size Wo HNo.out hrj hl1 hl2 hl3 (by omega) (by omega) HGL.out (by omega) hbj)
                  have HLV := Lib.hid hl1
                  clear hrj hl1 hl2 hl3
                  go_wp2_with fail
                  refine HT.out.mono ?_
                  clear HT e3
                  rintro e Wp ⟨Ap, cp, rfl, HNp, HPp⟩
                  have HQp := Lib.hid (HQo.out.trans HPp.out)
                  have HUn : Hid (us ++ [an, ag, aq] ++ [(sn : Int)] ++ x.st = flatB Tk p ++ p.its.flatMap itN ++ [(cn : Int)] ++ cts.flatMap id ++ [(mn : Int)] ++ ((mds.map Mdm.p).take (q + 1)).flatMap mdN) := Lib.hid (by
                    have h1 := HLV.out
                    rw [List.take_add_one, HX.out, HU.out]
                    simp only [Option.toList, List.flatMap_append, List.flatMap_cons, List.flatMap_nil, List.append_nil, mdN, Mdm.p, HXV.out.1, HXV.out.2.1, HXV.out.2.2.1, h1, List.append_assoc, List.cons_append, List.nil_append])
                  clear HN1 HQ1 HK1 HNo HQo HPo HPp HKo HU HN HQ HR1
                  go_wp2_with fail
                  go_roundw
                  case rel => exact ⟨q + 1, m + 3 + 1 + sn, cp, Ap, _, by omega, by go_num, HNp, HQp, HUn⟩
                  case measure => simp [intOf]; omega
                · obtain rfl : mn = q := by omega
                  have HZ4 : Hid (us = flatB Tk p ++ p.its.flatMap itN ++ [(cn : Int)] ++ cts.flatMap id ++ [(mn : Int)] ++ (mds.map Mdm.p).flatMap mdN) := Lib.hid (by rw [HU.out, List.take_of_length_le (by rw [List.length_map, ← HMS.out.len]; exact Nat.le_refl _)])
                  have hm2 : m ≤ 2 + L1 + 1 + gn + 1 + L3 + 1 + L4 + 1 + L5 := by
                    have h1 := HN.out.len
                    have h4 := HMa.out
                    have h5 := HL.out.2.2.2.1
                    rw [HZ4.out] at h1
                    simp only [List.length_append] at h1 h4
                    omega
                  clear HU HMa hmm
                  have HX1 : Hid (Bk wo w.heap.size 80 #[.int .i64 Tk, .slice kA kn kc, .slice gA gn gc, .slice iA im ic, .slice cA cn cc, .slice mA mn mc, .slice eA en ec]) := Lib.hid (HQ.out.kx.bk HX0.out (by decide))
                  have d1 : wo.cell? ⟨w.heap.size, 6, none⟩ = some (.slice eA en ec) := HX1.out.cell 6
                  have hnl : en ≤ L6 := by rw [HL.out.2.2.2.2, HES.out.len]; exact len_rows _ (fun x hx => by have := HES.out.ok x hx; omega)
                  have c0 : wo.cell? ⟨gl, 0, none⟩ = some (.slice A m c) := HN.out.bk.cell 0
                  have hbX : w.heap.size + 2 ≤ wo.heap.size := by have := HQ.out.kx.size; have := HSZ.out; omega
                  go_upto_region 46 with
                    (at_builtin
                     go_must (refine wpList_append_rd _ rfl (.tmp 195) (.tmp 199) _ rfl (w.heap.size + 2) 3 i3 (.int .i64 0) 1 8 Try.underlying30 hi3 hz30 hz31 hz32 rfl (by decide) (.slice A m c) (m) _ rfl (HN.out.own.alloc _) (wo.heap.size + 1) _ 1 1 [.int .i64 en] rfl (Rd.new wo 3 1 1 #[.int .i64 en] rfl) ?c1 ?c2 ?c3 ?c4 ?_)
                     case c1 => simp [Value.oneCell']
                     case c2 => unfold maxLen; omega
                     case c3 => omega
                     case c4 => simp; omega
                     intro At ct vt hown hgr hat
                     have hk3 := (HN.out.bk.alloc (.cells #[.int .i64 en] 3)).grown hgr (fun e => own_ne HN.out.own HN.out.bk (by decide) e.symm)
                     have cB : vt.cell? ⟨gl, 0, none⟩ = some (.slice A m c) := hk3.cell 0
                     have fB : vt.frozen? ⟨gl, 0, none⟩ = false := hk3.frozen 0)
                  have hp := HN.out.push (B := w.heap.size) (w' := wo.alloc (.cells #[.int .i64 en] 3)) (n' := m + 1) (ys := [(en : Int)]) ((Below.refl _ _).alloc (Nat.le_refl _) _) (by rw [List.map_append]; exact hown) hgr rfl (by omega) HGL.out
                  obtain ⟨Wt, hWt⟩ : ∃ z, z = vt.setCell ⟨gl, 0, none⟩ (.slice At (m + 1) ct) := ⟨_, rfl⟩
                  rw [← hWt] at hp
                  have HNt := Lib.hid hp.1
                  have HPt := Lib.hid hp.2
                  have HQt := Lib.hid (HQ.out.trans hp.2)
                  clear hp hown hgr hat hk3 c0 hbX d1
                  rw [← hWt]
                  clear hWt cB fB
                  have HXt : Hid (Bk Wt w.heap.size 80 #[.int .i64 Tk, .slice kA kn kc, .slice gA gn gc, .slice iA im ic, .slice cA cn cc, .slice mA mn mc, .slice eA en ec]) := Lib.hid (HPt.out.kx.bk HX1.out (by decide))
                  have d1 : Wt.cell? ⟨w.heap.size, 6, none⟩ = some (.slice eA en ec) := HXt.out.cell 6
                  go_wp2_with fail
                  clear d1 HX1 HXt HPt HN HQ
                  have HMa : Hid (m + 1 = (flatB Tk p ++ p.its.flatMap itN ++ [(cn : Int)] ++ cts.flatMap id ++ [(mn : Int)] ++ (mds.map Mdm.p).flatMap mdN ++ [(en : Int)]).length) := Lib.hid (by have := HNt.out.len; rw [HZ4.out] at this; exact this)
                  have hmm : m + 1 ≤ 2 + L1 + 1 + gn + 1 + L3 + 1 + L4 + 1 + L5 + 1 := by omega
                  go_loopw [204] (fun iv wr => ∃ (q m c : Nat) (A : Option Addr) (us : List Int), q ≤ en ∧ iv = .int .i64 q ∧ Hid (NuI wr gl (w.heap.size + 2) A m c us) ∧ Hid (NK w.heap.size W0 wr) ∧ Hid (us = flatB Tk p ++ p.its.flatMap itN ++ [(cn : Int)] ++ cts.flatMap id ++ [(mn : Int)] ++ (mds.map Mdm.p).flatMap mdN ++ [(en : Int)] ++ (evs.take q).flatMap id)) (fun iv _ => en - (intOf iv).toNat)
                  case atStart => exact ⟨0, m + 1, ct, At, _, Nat.zero_le _, rfl, HNt, HQt, Lib.hid (by rw [HZ4.out]; simp)⟩
                  case round =>
                    clear HNt HQt HZ4
                    obtain ⟨q, m, c, A, us, hq, rfl, HN, HQ, HU⟩ := hrel
                    obtain ⟨wo, rfl⟩ : ∃ z, z = wr := ⟨_, rfl⟩
                    have hbw : w.heap.size + 2 ≤ wo.heap.size := by have := HQ.out.kx.size; have := HSZ.out; omega
                    by_cases hlt : q < en
                    · have hso := HES.out.below ((HQ.out.lo (by have := HSZ.out; omega)).mono (by omega))
                      obtain ⟨x, hx⟩ : ∃ x, evs[q]? = some x := ⟨_, List.getElem?_eq_getElem (by have := HES.out.len; omega)⟩
                      obtain ⟨b, o, rfl, hbb, hcx⟩ := hso.at_ hlt hx
                      obtain ⟨a0, a1, a2, a3, rfl⟩ := len4 x (HES.out.ok x (List.mem_of_getElem? hx))
                      have q0 : wo.cell? ⟨b, o + q * 4, none⟩ = some (.int .i64 a0) := hcx 0 a0 rfl
                      have q1 : wo.cell? ⟨b, o + q * 4 + 1, none⟩ = some (.int .i64 a1) := hcx 1 a1 rfl
                      have q2 : wo.cell? ⟨b, o + q * 4 + 2, none⟩ = some (.int .i64 a2) := hcx 2 a2 rfl
                      have q3 : wo.cell? ⟨b, o + q * 4 + 3, none⟩ = some (.int .i64 a3) := hcx 3 a3 rfl
                      have hbd : m + 4 ≤ 2 + L1 + 1 + gn + 1 + L3 + 1 + L4 + 1 + L5 + 1 + L6 := by
                        have h1 := take_flat id hx
                        have h2 := HN.out.len
                        rw [HU.out] at h2
                        have h4 := HMa.out
                        have h5 := HL.out.2.2.2.2
                        have h3 : (id [a0, a1, a2, a3]).length = 4 := rfl
                        simp only [List.length_append] at h2 h4
                        omega
                      have HX := Lib.hid hx
                      clear hso hcx hx
                      obtain ⟨v1, hv1⟩ : ∃ z, z = wo.alloc (.cells #[.int .i64 a0, .int .i64 a1, .int .i64 a2, .int .i64 a3] 227) := ⟨_, rfl⟩
                      have hB1 : Below wo.heap.size wo v1 := by rw [hv1]; exact (Below.refl _ _).alloc (Nat.le_refl _) _
                      obtain ⟨hk1, hhk⟩ : ∃ z, z = wo.heap.size := ⟨_, rfl⟩
                      have HK1 : Hid (Bk v1 hk1 227 #[.int .i64 a0, .int .i64 a1, .int .i64 a2, .int .i64 a3]) := Lib.hid (by rw [hv1, hhk]; exact Bk.new _ _ _)
                      have HN1 := Lib.hid (HN.out.below hB1)
                      have HQ1 : Hid (NK w.heap.size W0 v1) := Lib.hid (HQ.out.trans (NK.of_below hB1))
                      clear hB1
                      go_upto_region 49 with fail
                      rw [← hv1, ← hhk]
                      clear hv1 hhk q0 q1 q2 q3
                      have e0 : v1.cell? ⟨hk1, 0, none⟩ = some (.int .i64 a0) := HK1.out.cell 0
                      have e1 : v1.cell? ⟨hk1, 1, none⟩ = some (.int .i64 a1) := HK1.out.cell 1
                      have e2 : v1.cell? ⟨hk1, 2, none⟩ = some (.int .i64 a2) := HK1.out.cell 2
                      have e3 : v1.cell? ⟨hk1, 3, none⟩ = some (.int .i64 a3) := HK1.out.cell 3
                      have c0 : v1.cell? ⟨gl, 0, none⟩ = some (.slice A m c) := HN1.out.bk.cell 0
                      have hbX : w.heap.size + 2 ≤ v1.heap.size := by have := HQ1.out.kx.size; have := HSZ.out; omega
                      go_upto_region 50 with
                        (at_builtin
                         go_must (refine wpList_append_rd _ rfl (.tmp 208) (.tmp 219) _ rfl (w.heap.size + 2) 3 i3 (.int .i64 0) 1 8 Try.underlying30 hi3 hz30 hz31 hz32 rfl (by decide) (.slice A m c) (m) _ rfl (HN1.out.own.alloc _) (v1.heap.size + 1) _ 4 4 [.int .i64 a0, .int .i64 a1, .int .i64 a2, .int .i64 a3] rfl (Rd.new v1 3 4 1 #[.int .i64 a0, .int .i64 a1, .int .i64 a2, .int .i64 a3] rfl) ?c1 ?c2 ?c3 ?c4 ?_)
                         case c1 => simp [Value.oneCell']
                         case c2 => unfold maxLen; omega
                         case c3 => omega
                         case c4 => simp; omega
                         intro Ao co vo hown hgr hat
                         have hk3 := (HN1.out.bk.alloc (.cells #[.int .i64 a0, .int .i64 a1, .int .i64 a2, .int .i64 a3] 3)).grown hgr (fun e => own_ne HN1.out.own HN1.out.bk (by decide) e.symm)
                         have cB : vo.cell? ⟨gl, 0, none⟩ = some (.slice A m c) := hk3.cell 0
                         have fB : vo.frozen? ⟨gl, 0, none⟩ = false := hk3.frozen 0)
                      have hp := HN1.out.push (B := w.heap.size) (w' := v1.alloc (.cells #[.int .i64 a0, .int .i64 a1, .int .i64 a2, .int .i64 a3] 3)) (n' := m + 4) (ys := [a0, a1, a2, a3]) ((Below.refl _ _).alloc (Nat.le_refl _) _) (by rw [List.map_append]; exact hown) hgr rfl (by omega) HGL.out
                      obtain ⟨Wo, hWo⟩ : ∃ z, z = vo.setCell ⟨gl, 0, none⟩ (.slice Ao (m + 4) co) := ⟨_, rfl⟩
                      rw [← hWo] at hp
                      have HNo := Lib.hid hp.1
                      have HPo := Lib.hid hp.2
                      have HQo := Lib.hid (HQ1.out.trans hp.2)
                      clear hp hown hgr hat hk3 c0 hbX e0 e1 e2 e3
                      rw [← hWo]
                      clear hWo cB fB
                      have HKo : Hid (Bk Wo hk1 227 #[.int .i64 a0, .int .i64 a1, .int .i64 a2, .int .i64 a3]) := Lib.hid (HPo.out.kx.bk HK1.out (by decide))
                      have HUn : Hid (us ++ [a0, a1, a2, a3] = flatB Tk p ++ p.its.flatMap itN ++ [(cn : Int)] ++ cts.flatMap id ++ [(mn : Int)] ++ (mds.map Mdm.p).flatMap mdN ++ [(en : Int)] ++ (evs.take (q + 1)).flatMap id) := Lib.hid (by
                        rw [List.take_add_one, HX.out, HU.out]
                        simp only [Option.toList, List.flatMap_append, List.flatMap_cons, List.flatMap_nil, List.append_nil, id, List.append_assoc, List.cons_append, List.nil_append])
                      clear HN1 HQ1 HK1 HU HN HQ HPo HKo
                      go_wp2_with fail
                      go_roundw
                      case rel => exact ⟨q + 1, m + 4, co, Ao, _, by omega, by go_num, HNo, HQo, HUn⟩
                      case measure => simp [intOf]; omega
                    · obtain rfl : en = q := by omega
                      have HZ5 : Hid (us = flatB Tk p ++ p.its.flatMap itN ++ [(cn : Int)] ++ cts.flatMap id ++ [(mn : Int)] ++ (mds.map Mdm.p).flatMap mdN ++ [(en : Int)] ++ evs.flatMap id) := Lib.hid (by rw [HU.out, List.take_of_length_le (by rw [← HES.out.len]; exact Nat.le_refl _)])
                      have hm2 : m ≤ 2 + L1 + 1 + gn + 1 + L3 + 1 + L4 + 1 + L5 + 1 + L6 := by
                        have h1 := HN.out.len
                        have h4 := HMa.out
                        have h5 := HL.out.2.2.2.2
                        rw [HZ5.out] at h1
                        simp only [List.length_append] at h1 h4
                        omega
                      clear HU HMa hmm
                      have c0 : wo.cell? ⟨gl, 0, none⟩ = some (.slice A m c) := HN.out.bk.cell 0
                      go_wp2_with fail
                      go_ret
                      have hfl : FS = us := by
                        rw [HFS.out, HZ5.out]
                        have h1 : cn = cts.length := HCS.out.len
                        have h2 : mn = (mds.map Mdm.p).length := by rw [List.length_map]; exact HMS.out.len
                        have h3 : en = evs.length := HES.out.len
                        have h4 : gn = p.gens.length := HGE.out.symm
                        simp only [flatS, worldN, gensN, itsN, ctsN, mdsN, evsN, flatB, flatA, h1, h2, h3, List.append_assoc, List.cons_append, List.nil_append]
                      rw [hfl]
                      have e : us.length = m := HN.out.len.symm
                      refine ⟨A, c, by rw [e]; rfl, by rw [e]; exact own_mono HN.out.own (by omega), HB0.out.trans ((HQ.out.lo (by have := HSZ.out; omega)).mono (Nat.le_refl _))⟩
end Go.Proofs.Ytnidcmhfbkdioaa
