/-
  The contract of the reference's Take. Conditions: a half in memory, bytes that can be read.
-/
import Derived.Test.YtlgcdcjfobfoiaaLkf
namespace Go.Proofs.Ytlgcdcjfobfoiaa
open Go.RowKit
set_option maxRecDepth 100000

set_option maxHeartbeats 6400000 in
theorem take_any {base : Nat} {F : List Nat} {g ack came : Nat} {S N : List (List Nat)} (A : Option Addr) (n c B0 : Nat) (l : List Nat) (w : World) (hB0 : B0 = w.heap.size) (h : HalfS w base F g ack came S N) (hr : Rd w B0 1 A n (bytesV l)) (hn : n = l.length) (hc : n ≤ c) (hc2 : c ≤ 9223372036854775807) (hl : ∀ b ∈ l, b < 256) (hbase : base ≤ w.heap.size) (h1 : S.length ≤ 1000000) (h2 : came ≤ 1000000) (h3 : N.length ≤ 1000000) :
    Calls Try.prog 49 #[.pointer (some ⟨g, 0, none⟩), .slice A n c] w (TakeP w base F g S (tkR ack came S N l)) := by
  obtain ⟨i0, hi0, hz0, hz1, hz2⟩ := info_parts T.info30
  have hgl : g < w.heap.size := (h.lt g (by obtain ⟨_, _, _, _, _, _, h, _⟩ := h; rw [h.fp]; simp)).2
  have HGL := Lib.hid hgl
  have HH := Lib.hid h
  clear hgl h
  by_cases h17 : n < 17
  · have HR := Lib.hid (openR_short (l := l) (by omega))
    clear hr hn hl
    go_enter Try.func49, Try.ntmps49
    go_wp2_with fail
    go_ret
    exact TakeP.err (k := 14) HH.out HR.out (by omega) (Below.refl _ _)
  · obtain ⟨m, hm⟩ : ∃ m, n = m + 8 := ⟨n - 8, by omega⟩
    have hnm : (n : Int) - 8 = (m : Int) := by omega
    have hmn : n - m = 8 := by omega
    have hmc : m ≤ c := by omega
    have hm9 : 9 ≤ m := by omega
    have h17' : ¬ l.length < 17 := by omega
    have hbody : bodyO l = l.take m := by unfold bodyO; rw [← hn, hm]; simp
    have htl : l.drop (l.length - 8) = l.drop m := by rw [← hn, hm]; simp
    have cutB := upto_30 A n c m hmc
    have cutT := cut_30 A n c m (by omega)
    have hrB : Rd w B0 1 A m (bytesV (bodyO l)) := by rw [hbody]; rw [bytesV_take]; exact hr.take (by omega)
    have hrT := hr.cut (c := c) (k := m) (by omega) hc
    rw [← bytesV_drop, hmn] at hrT
    rw [hmn] at cutT
    obtain ⟨T, hT⟩ : ∃ T, T = l.drop m := ⟨_, rfl⟩
    rw [← hT] at hrT htl
    have hTl : T.length = 8 := by rw [hT, List.length_drop]; omega
    obtain ⟨Bd, hBd⟩ : ∃ Bd, Bd = bodyO l := ⟨_, rfl⟩
    have hBl : m = Bd.length := by rw [hBd, hbody, List.length_take]; omega
    have hBlt : ∀ b ∈ Bd, b < 256 := fun b hb => hl b (by rw [hBd, hbody] at hb; exact List.mem_of_mem_take hb)
    rw [← hBd] at hrB
    have hr2 := sumBy_rng Bd
    obtain ⟨S', hS⟩ := Int.eq_ofNat_of_zero_le hr2.1
    rw [hS] at hr2
    have hS2 : S' < 18446744073709551616 := by have := hr2.2; omega
    have hsum := fun q => sumBytes_any A m c B0 Bd (w.drewN q) hrB hBl hmc hc2
    rw [hS] at hsum
    have HSUM := Lib.hid hsum
    have HSS : Hid ((sumBy (bodyO l)).toNat = S') := Lib.hid (by rw [← hBd, hS, Int.toNat_natCast])
    have HRB := Lib.hid hrB
    have HRT := Lib.hid hrT
    have HTL := Lib.hid hTl
    have HBD := Lib.hid hBd
    have HBL := Lib.hid hBl
    have HBLT := Lib.hid hBlt
    have H17 := Lib.hid h17'
    have HTD := Lib.hid htl
    have HB0 := Lib.hid hB0
    have HTLT : Hid (∀ b ∈ T, b < 256) := Lib.hid fun b hb => hl b (by rw [hT] at hb; exact List.mem_of_mem_drop hb)
    clear hr hn hl hbody htl hrB hrT hT hTl hBd hBl hBlt hr2 hS hsum h17' hB0 hm hmn
    generalize cutA A c m = TA at *
    generalize c - m = tc at *
    have HBG : Hid (∀ wx, Calls Try.prog 78 #[.int .u64 (S' : Nat), .int .i64 8] wx (RetT wx 5 1 8 (bytesV (bigB S' 8)))) := Lib.hid fun wx => big_any S' 8 wx hS2 (by omega)
    go_enter Try.func49, Try.ntmps49
    go_wp2_with fail
    go_quiet (fail)
    go_wp2_with fail
    refine (HSUM.out nq).mono ?_
    rintro e w1 ⟨rfl, m1, rfl⟩
    have hb1 : Below B0 w ((w.drewN nq).drewN m1) := by rw [HB0.out]; exact ⟨rfl, rfl, rfl, Nat.le_refl _, fun _ _ => rfl⟩
    have HRB1 := Lib.hid (HRB.out.below hb1)
    have HRT1 := Lib.hid (HRT.out.below hb1)
    generalize (w.drewN nq).drewN m1 = w1 at *
    clear HSUM
    have hsz1 : B0 ≤ w1.heap.size := by have := hb1.size; have := HB0.out; omega
    go_wp2_with fail
    refine (HBG.out _).mono ?_
    rintro e w2 ⟨A2, d2, rfl, hd2, hd2', ht2, hb2⟩
    have hbb := hb1.trans (hb2.mono hsz1)
    have hsz2 : B0 ≤ w2.heap.size := by have := hbb.size; have := HB0.out; omega
    have HEQ := Lib.hid (bytesEqual_any TA A2 8 tc 8 d2 w2.heap.size T (bigB S' 8) w2 HTLT.out (bigB_lt _ _) ((HRT1.out.below (hb2.mono hsz1)).more hsz2) ht2.rd)
    have HRB2 := Lib.hid (HRB1.out.below (hb2.mono hsz1))
    clear ht2 hb2 hb1 HRB1 HRT1 HBG
    by_cases hsumok : T = bigB S' 8
    · have hdec : decide (T = bigB S' 8) = true := decide_eq_true hsumok
      rw [hdec] at HEQ
      go_wp2_with fail
      refine HEQ.out.mono ?_
      rintro e w3 ⟨rfl, rfl⟩
      have HOK : Hid (l.drop (l.length - 8) = bigB (sumBy (bodyO l)).toNat 8) := Lib.hid (by rw [HTD.out, HSS.out, hsumok])
      clear HEQ hdec hsumok
      have hv4 : wholeB (Bd.take 4) = val4 Bd := whole4 Bd (by have := HBL.out; omega)
      have hv8 : wholeB ((Bd.drop 4).take 4) = val4 (Bd.drop 4) := whole4 (Bd.drop 4) (by rw [List.length_drop]; have := HBL.out; omega)
      have cut04 : ∀ wx, (Instr.sliceAt 30 (.slice A m c) none (some (.int .i64 4)) none).run Try.prog wx = .ok (.slice A 4 c) wx := upto_30 A m c 4 (by omega)
      have cut48 : ∀ wx, (Instr.sliceAt 30 (.slice A m c) (some (.int .i64 4)) (some (.int .i64 8)) none).run Try.prog wx = .ok (.slice (cutA A c 4) 4 (c - 4)) wx := between_30 A m c 4 8 (by omega) (by omega)
      have cut9 : ∀ wx, (Instr.sliceAt 30 (.slice A m c) (some (.int .i64 9)) none none).run Try.prog wx = .ok (.slice (cutA A c 9) (m - 9) (c - 9)) wx := cut_30 A m c 9 (by omega)
      obtain ⟨va, hva⟩ : ∃ va, va = val4 Bd := ⟨_, rfl⟩
      obtain ⟨vb, hvb⟩ : ∃ vb, vb = val4 (Bd.drop 4) := ⟨_, rfl⟩
      have HV1 : Hid (∀ q, Calls Try.prog 80 #[.slice A 4 c] (w2.drewN q) fun e w' => e = .returned (.int .i64 va) ∧ w' = w2.drewN q) := Lib.hid fun q => (whole_any A 4 c B0 (Bd.take 4) (w2.drewN q) (by rw [bytesV_take]; exact HRB2.out.take (by omega)) (by rw [List.length_take, ← HBL.out]; omega) (by omega) (fun b hb => HBLT.out b (List.mem_of_mem_take hb))).mono fun _ _ h => ⟨by rw [hva, ← hv4]; exact h.1, h.2.symm⟩
      have HV2 : Hid (∀ q, Calls Try.prog 80 #[.slice (cutA A c 4) 4 (c - 4)] (w2.drewN q) fun e w' => e = .returned (.int .i64 vb) ∧ w' = w2.drewN q) := Lib.hid fun q => (whole_any (cutA A c 4) 4 (c - 4) B0 ((Bd.drop 4).take 4) (w2.drewN q) (HRB2.out.between (j := 4) (k := 8) (by omega) (by omega) hmc) (by rw [List.length_take, List.length_drop, ← HBL.out]; omega) (by omega) (fun b hb => HBLT.out b (List.mem_of_mem_drop (List.mem_of_mem_take hb)))).mono fun _ _ h => ⟨by rw [hvb, ← hv8]; exact h.1, h.2.symm⟩
      have hrd9 : Rd w2 B0 1 (cutA A c 9) (m - 9) (bytesV (Bd.drop 9)) := by rw [bytesV_drop]; exact HRB2.out.cut (by omega) hmc
      have hlen9 : m - 9 = (Bd.drop 9).length := by rw [List.length_drop, ← HBL.out]
      have hcap9 : m - 9 ≤ c - 9 := by omega
      have hcap9' : c - 9 ≤ 9223372036854775807 := by omega
      have hvalt : va < 4294967296 := by rw [hva]; exact val4_lt HBLT.out
      have hvblt : vb < 4294967296 := by rw [hvb]; exact val4_lt fun b hb => HBLT.out b (List.mem_of_mem_drop hb)
      generalize cutA A c 4 = A4 at *
      generalize c - 4 = c4 at *
      obtain ⟨tb, to_, hAe, _, c8⟩ := HRB2.out.at1 (k := 8) (by omega) (bytesV_get Bd 8 (by have := HBL.out; omega))
      obtain ⟨mn, hmn⟩ : ∃ mn, mn = Bd.getD 8 0 := ⟨_, rfl⟩
      have hmn8 : mn < 256 := by rw [hmn]; exact getD_lt HBLT.out 8
      rw [← hmn] at c8
      have HMN := Lib.hid hmn
      have HRD9 := Lib.hid hrd9
      have HLEN9 := Lib.hid hlen9
      have HVA := Lib.hid hva
      have HVB := Lib.hid hvb
      have h8m : (8 : Int) < m := by omega
      have HR4 : Hid (∀ b ∈ Bd.drop 9, b < 256) := Lib.hid fun b hb => HBLT.out b (List.mem_of_mem_drop hb)
      have HB9 : Hid (parseB mn (Bd.drop 9) = parseB ((bodyO l).getD 8 0) ((bodyO l).drop 9)) := Lib.hid (by rw [HMN.out, HBD.out])
      clear hrd9 hlen9 hmn hva hvb hv4 hv8
      generalize cutA A c 9 = A9 at *
      generalize m - 9 = m9 at *
      generalize c - 9 = c9 at *
      subst hAe
      go_wp2_with fail
      go_quiet ((go_at_call 80; first | (with_reducible exact Calls.quiet_of_same (HV1.out _)) | (with_reducible exact Calls.quiet_of_same (HV2.out _))))
      go_wp2_with fail
      have hbw : Below B0 w (w2.drewN nq) := Below.dn hbb nq
      have HRD9' : Hid (Rd (w2.drewN nq) B0 1 A9 m9 (bytesV (Bd.drop 9))) := Lib.hid HRD9.out
      generalize w2.drewN nq = w2 at *
      clear HV1 HV2 HRD9 cut04 cut48 cut9 cutB cutT c8 HRB2 hbb hsz2
      obtain ⟨R, hR⟩ : ∃ R, R = parseB mn (Bd.drop 9) := ⟨_, rfl⟩
      rw [← hR] at HB9
      have HRR := Lib.hid hR
      clear hR
      go_loopw [10, 11, 12, 47] (fun ls bd _ i wr => ∃ (Ls : List Ms) (q p kk : Nat) (LA RA : Option Addr) (lc rc : Nat) (r : List Nat), ls = .slice LA q lc ∧ bd = .slice RA p rc ∧ i = .int .i64 q ∧ q + kk = mn ∧ p ≤ rc ∧ rc ≤ 9223372036854775807 ∧ Hid (q = Ls.length ∧ p = r.length ∧ (∀ b ∈ r, b < 256) ∧ AtB R kk (Ls.map Ms.dat) r) ∧ Hid (Rd wr B0 1 RA p (bytesV r)) ∧ Hid (wr.ownsRow B0 30 1 (.slice LA q lc) q (msV Ls)) ∧ Hid (∀ m ∈ Ls, MsOk wr m) ∧ Below B0 w wr) (fun _ _ _ i _ => mn - (intOf i).toNat)
      case atStart => exact ⟨[], 0, m9, mn, none, A9, 0, c9, Bd.drop 9, rfl, rfl, rfl, by omega, hcap9, hcap9', Lib.hid ⟨rfl, HLEN9.out, HR4.out, by rw [HRR.out]; exact AtB.start _ _⟩, HRD9', Lib.hid (World.ownsRow_nil _ _ _ _), Lib.hid (by simp), hbw⟩
      case round =>
        obtain ⟨Ls, q, p, kk, LA, RA, lc, rc, r, rfl, rfl, rfl, hkk, hprc, hrc9, HS, HRD, HOWN, HOKL, hb⟩ := hrel
        clear hbw HRD9'
        have hsz : B0 ≤ wr.heap.size := by have := hb.size; have := HB0.out; omega
        cases kk with
        | succ kk =>
          have hkm : (q : Int) < mn := by omega
          by_cases hp2 : p < 2
          · have hp2i : (p : Int) < 2 := by omega
            go_wp2_with fail
            go_ret
            have hnone := HS.out.2.2.2.fail (by have := HS.out.2.1; omega)
            rw [HB9.out] at hnone
            exact TakeP.err (k := 3) HH.out (openR_none H17.out HOK.out hnone) (by omega) (by rw [← HB0.out]; exact hb)
          · have hp2i : decide ((p : Int) < 2) = false := by simp; omega
            obtain ⟨LB, hLB⟩ : ∃ LB, LB = lenB r := ⟨_, rfl⟩
            have hLBlt : LB < 65536 := by rw [hLB]; exact lenB_lt HS.out.2.2.1
            have HLB := Lib.hid hLB
            have hw2 : wholeB (r.take 2) = LB := by rw [hLB]; exact whole2 r (by have := HS.out.2.1; omega)
            have HWH : Hid (Calls Try.prog 80 #[.slice RA 2 rc] wr fun e w' => e = .returned (.int .i64 LB) ∧ w' = wr) := Lib.hid ((whole_any RA 2 rc B0 (r.take 2) wr (by rw [bytesV_take]; exact HRD.out.take (by omega)) (by rw [List.length_take]; have := HS.out.2.1; omega) (by omega) (fun b hb => HS.out.2.2.1 b (List.mem_of_mem_take hb))).mono fun _ _ h => ⟨by rw [← hw2]; exact h.1, h.2.symm⟩)
            have cut02 : ∀ wx, (Instr.sliceAt 30 (.slice RA p rc) none (some (.int .i64 2)) none).run Try.prog wx = .ok (.slice RA 2 rc) wx := upto_30 RA p rc 2 (by omega)
            clear hLB hw2
            by_cases hs : p < 2 + LB
            · have hsi : (p : Int) < 2 + LB := by omega
              go_wp2_with fail
              refine HWH.out.mono ?_
              rintro e w3 ⟨rfl, rfl⟩
              go_wp2_with fail
              go_ret
              have hnone := HS.out.2.2.2.fail (by have := HS.out.2.1; have := HLB.out; omega)
              rw [HB9.out] at hnone
              exact TakeP.err (k := 3) HH.out (openR_none H17.out HOK.out hnone) (by omega) (by rw [← HB0.out]; exact hb)
            · have hsi : decide ((p : Int) < 2 + LB) = false := by simp; omega
              have hcc : ∀ wx, (Instr.sliceAt 30 (.slice RA p rc) (some (.int .i64 2)) (some (.int .i64 (2 + (LB : Int)))) none).run Try.prog wx = .ok (.slice (cutA RA rc 2) LB (rc - 2)) wx := fun wx => by
                have h := between_30 RA p rc 2 (2 + LB) (by omega) (by omega) wx
                rw [show 2 + LB - 2 = LB by omega] at h
                rw [← h]; congr 2
              have hcd : ∀ wx, (Instr.sliceAt 30 (.slice RA p rc) (some (.int .i64 (2 + (LB : Int)))) none none).run Try.prog wx = .ok (.slice (cutA RA rc (2 + LB)) (p - (2 + LB)) (rc - (2 + LB))) wx := cut_30 RA p rc (2 + LB) (by omega)
              have hrm := HRD.out.between (c := rc) (j := 2) (k := 2 + LB) (by omega) (by omega) hprc
              rw [show 2 + LB - 2 = LB by omega] at hrm
              have hrd := HRD.out.cut (c := rc) (k := 2 + LB) (by omega) hprc
              rw [← bytesV_drop] at hrd
              have hmd : (r.drop 2).take LB = (r.drop 2).take (lenB r) := by rw [HLB.out]
              obtain ⟨md, hmdd⟩ : ∃ md, md = (r.drop 2).take LB := ⟨_, rfl⟩
              rw [← hmdd] at hrm hmd
              have hmdl : LB = md.length := by rw [hmdd, List.length_take, List.length_drop]; have := HS.out.2.1; omega
              have hmdlt : ∀ b ∈ md, b < 256 := fun b hb => HS.out.2.2.1 b (by rw [hmdd] at hb; exact List.mem_of_mem_drop (List.mem_of_mem_take hb))
              have hat := HS.out.2.2.2.step (by have := HS.out.2.1; have := HLB.out; omega)
              rw [← hmd, ← HLB.out] at hat
              have hr2l : p - (2 + LB) = (r.drop (2 + LB)).length := by rw [List.length_drop, ← HS.out.2.1]
              have hr2lt : ∀ b ∈ r.drop (2 + LB), b < 256 := fun b hb => HS.out.2.2.1 b (List.mem_of_mem_drop hb)
              have hpr2 : p - (2 + LB) ≤ rc - (2 + LB) := by omega
              have hrc2 : rc - (2 + LB) ≤ 9223372036854775807 := by omega
              have HMD := Lib.hid hmdl
              have HMLT := Lib.hid hmdlt
              have HRD2 := Lib.hid hrd
              have HS2 : Hid (p - (2 + LB) = (r.drop (2 + LB)).length ∧ (∀ b ∈ r.drop (2 + LB), b < 256) ∧ AtB R kk (Ls.map Ms.dat ++ [md]) (r.drop (2 + LB))) := Lib.hid ⟨hr2l, hr2lt, hat⟩
              have HCL := Lib.hid (bclone_any (cutA RA rc 2) LB (rc - 2) B0 (bytesV md) wr hrm (bytesV_one _) hsz (by omega))
              clear hrm hrd hmd hmdl hmdlt hat hr2l hr2lt hmdd
              generalize cutA RA rc 2 = MA at *
              generalize cutA RA rc (2 + LB) = RA2 at *
              generalize p - (2 + LB) = p2 at *
              generalize rc - (2 + LB) = rc2 at *
              generalize rc - 2 = mc at *
              generalize r.drop (2 + LB) = r2 at *
              go_wp2_with fail
              refine HWH.out.mono ?_
              rintro e w3 ⟨rfl, hw3⟩
              obtain ⟨wz, hwz⟩ : ∃ wz, wz = wr := ⟨_, rfl⟩
              subst hw3
              go_wp2_with fail
              refine HWH.out.mono ?_
              rintro e w4 ⟨rfl, hw4⟩
              subst hw4
              clear HWH hwz
              go_wp2_with fail
              refine HCL.out.mono ?_
              rintro e w3 ⟨CA, cc, rfl, hownc, hb3⟩
              have hown3 := own_keep HOWN.out hb3
              have hsz3 := hb3.size
              have hb4 := hb.trans (hb3.mono hsz)
              have HBB := Lib.hid hb3
              have HOWC := Lib.hid hownc
              clear HCL hb3 hownc
              go_wp2_with
                (at_builtin
                 go_must (refine wpList_append_one _ rfl (.tmp 64) (.tmp 70) _ rfl B0 30 i0 (.slice none 0 0) 1 24 Try.underlying74 hi0 hz0 hz1 hz2 rfl (by decide) (.slice LA q lc) q _ rfl (hown3.alloc _) w3.heap.size 1 30 #[.slice CA LB cc] rfl (Bk.new _ _ _) rfl ?c1 (q + 1) rfl ?c2 ?c3 ?c4 ?_)
                 case c1 => simp [Value.oneCell']
                 case c2 => unfold maxLen; omega
                 case c3 => omega
                 case c4 => simp; omega
                 intro g5 d5 w5 hown5 hg5 hat5
                 have hb5 := (hb4.alloc (by omega) (.cells #[.slice CA LB cc] 30)).grown hg5 (by simp; omega) (fun k hk => (hown3.lt k hk).1))
              have hb6 := ((HBB.out.mono hsz).alloc (by omega) (.cells #[.slice CA LB cc] 30)).grown hg5 (by simp; omega) (fun k hk => (hown3.lt k hk).1)
              have hfq : Fq (blkA LA) w3 w5 := (Fq.refl.alloc (.cells #[.slice CA LB cc] 30)).grown hg5 (fun k hk => by
                have h1 := own_blk_of hk
                obtain ⟨_, cs, h2⟩ := own_blk hown3 k h1
                exact ⟨.inl (blkA_mem.2 h1), 30, cs, h2.alloc _, by decide⟩)
              have hcap := own_cap HOWC.out
              have hok5 : ∀ m ∈ Ls ++ [⟨CA, LB, cc, md⟩], MsOk w5 m := fun m hm => by
                rcases List.mem_append.1 hm with h1 | h1
                · exact ((HOKL.out m h1).below HBB.out).byt hfq.byt
                · obtain rfl := List.mem_singleton.1 h1
                  exact MsOk.byt ⟨Tr.of_own HOWC.out, HMD.out, hcap.1, hcap.2, HMLT.out⟩ hfq.byt
              go_roundw
              case rel => exact ⟨Ls ++ [⟨CA, LB, cc, md⟩], q + 1, p2, kk, _, RA2, d5, rc2, r2, rfl, rfl, by go_num, by omega, hpr2, hrc2, Lib.hid ⟨by have := HS.out.1; simp; omega, HS2.out.1, HS2.out.2.1, by simpa using HS2.out.2.2⟩, Lib.hid (HRD2.out.below hb6), Lib.hid (by rw [msV_append]; exact hown5), Lib.hid hok5, hb5⟩
              case measure => simp [intOf]; omega
        | zero =>
          obtain ⟨wo, rfl⟩ : ∃ wo : World, wo = wr := ⟨_, rfl⟩
          obtain rfl : q = mn := by omega
          have hdone := HS.out.2.2.2.done
          rw [HB9.out] at hdone
          have hlen0 : q = Ls.length := HS.out.1
          by_cases h8 : 8 < q
          · have h8i : (8 : Int) < q := by omega
            go_wp2_with fail
            go_ret
            exact TakeP.err (k := 3) HH.out (openR_form H17.out HOK.out hdone (.inl (by rw [← HBD.out, ← HMN.out]; exact h8))) (by omega) (by rw [← HB0.out]; exact hb)
          · have h8i : decide ((8 : Int) < q) = false := by simp; omega
            by_cases hp : 0 < p
            · have hpi : (0 : Int) < p := by omega
              go_wp2_with fail
              go_ret
              exact TakeP.err (k := 3) HH.out (openR_form H17.out HOK.out hdone (.inr (by show 0 < r.length; rw [← HS.out.2.1]; exact hp))) (by omega) (by rw [← HB0.out]; exact hb)
            · have hpi : decide ((0 : Int) < p) = false := by simp; omega
              have hok := openR_ok H17.out HOK.out hdone (by rw [← HBD.out, ← HMN.out]; show ¬ (8 < q ∨ 0 < r.length); rw [← HS.out.2.1]; omega)
              rw [← HBD.out, ← HVA.out, ← HVB.out] at hok
              have HOR := Lib.hid hok
              have hH1 := HH.out.below (w' := wo) (by rw [← HB0.out]; exact hb)
              have HH1 := Lib.hid hH1
              obtain ⟨Ss, Ns, SA, NA, sc, nc, hst, hSs, hNs⟩ := hH1
              have k0 : wo.cell? ⟨g, 0, none⟩ = some (.slice SA Ss.length sc) := hst.bk.cell 0
              have k1 : wo.cell? ⟨g, 1, none⟩ = some (.int .i64 ack) := hst.bk.cell 1
              have f1 := hst.bk.frozen 1
              obtain ⟨sl, hsl⟩ : ∃ sl, sl = Ss.length := ⟨_, rfl⟩
              rw [← hsl] at k0
              have hSl : S.length = sl := by rw [← hSs, List.length_map, hsl]
              rw [hSl] at h1
              have HSL := Lib.hid hSl
              obtain ⟨mx, hmx⟩ : ∃ mx, mx = max ack va := ⟨_, rfl⟩
              have hmi : max (ack : Int) (va : Int) = (mx : Int) := by omega
              have HMX := Lib.hid hmx
              have hE2 : HalfS (wo.setCell ⟨g, 1, none⟩ (.int .i64 mx)) base F g mx came S N := ⟨Ss, Ns, SA, NA, sc, nc, (hst.ack_ mx).1, hSs, hNs⟩
              have hQ2 := (hst.ack_ mx).2
              have HE2 := Lib.hid hE2
              have HQ2 := Lib.hid hQ2
              clear hok hdone hst hSs hNs hSl hmx hE2 hQ2 hsl
              by_cases hord : sl < va
              · have hoi : (sl : Int) < va := by omega
                go_wp2_with fail
                go_ret
                unfold TakeP
                rw [tkR_order (by rw [HOR.out]) (by rw [HOR.out, HSL.out]; exact hord)]
                exact HalfP.same HH.out (by rw [← HB0.out]; exact hb)
              · have hoi : decide ((sl : Int) < va) = false := by simp; omega
                go_wp2_with fail
                go_loopw [13, 14, 102] (fun _ _ i wr => ∃ k nx : Nat, k ≤ q ∧ i = .int .i64 k ∧ nx ≤ 1000008 ∧ Hid (nx = (dvN vb came (Ls.map Ms.dat) k).1) ∧ Hid (∃ Fi, HalfS wr base Fi g mx nx S (N ++ (dvN vb came (Ls.map Ms.dat) k).2) ∧ SubF F Fi wo.heap.size) ∧ Hid (Fq F wo wr)) (fun _ _ i _ => q - (intOf i).toNat)
                case atStart => exact ⟨0, came, Nat.zero_le _, rfl, by omega, Lib.hid rfl, Lib.hid ⟨F, by simpa [dvN] using HE2.out, SubF.refl _ _⟩, Lib.hid HQ2.out⟩
                case round =>
                  obtain ⟨k, nx, hk, rfl, hnx, HNX, HEE, HQQ⟩ := hrel
                  by_cases hlt : k < q
                  · have hkt : (k : Int) < q := by omega
                    obtain ⟨m, hm⟩ : ∃ m, Ls[k]? = some m := ⟨_, List.getElem?_eq_getElem (by omega)⟩
                    have hrd : Rd wr wr.heap.size 1 LA q (msV Ls) := by
                      refine Rd.of_own (base := B0) (e := 30) (c := lc) (own_keepB HOWN.out fun i hi => ?_)
                      have hl := HOWN.out.lt i hi
                      exact HQQ.out.low i hl.2 (fun hF => by have := (HH.out.lt i hF).2; have := HB0.out; omega)
                    obtain ⟨lb, lo, hLA, _, cx⟩ := hrd.at1 hlt (msV_get hm)
                    subst hLA
                    have hokm := (HOKL.out m (List.mem_of_getElem? hm)).byt HQQ.out.byt
                    have hmd : (Ls.map Ms.dat).getD k [] = m.dat := by
                      rw [List.getD_eq_getElem?_getD, List.getElem?_map, hm]; rfl
                    obtain ⟨Fi, hEi, hsubi⟩ := HEE.out
                    obtain ⟨Ss', Ns', SA', NA', sc', nc', hst, hS', hN'⟩ := hEi
                    have k2 : wr.cell? ⟨g, 2, none⟩ = some (.int .i64 nx) := hst.bk.cell 2
                    have k3 : wr.cell? ⟨g, 3, none⟩ = some (.slice NA' Ns'.length nc') := hst.bk.cell 3
                    have f2 := hst.bk.frozen 2
                    have f3 := hst.bk.frozen 3
                    have wfk : IntKind.i64.wrap ((vb : Int) + (k : Int)) = (vb : Int) + k := by rw [IntKind.wrap_i64]; omega
                    by_cases heq : vb + k = nx
                    · have hei : ((vb : Int) + (k : Int) == (nx : Int)) = true := by simp; omega
                      obtain ⟨pn, hpn⟩ : ∃ pn, pn = Ns'.length := ⟨_, rfl⟩
                      rw [← hpn] at k3
                      have hp8 : pn ≤ 1000255 := by
                        have h1 := dvN_len vb came (Ls.map Ms.dat) k
                        have h2 : (N ++ (dvN vb came (Ls.map Ms.dat) k).2).length = Ns'.length := by rw [← hN', List.length_map]
                        rw [List.length_append] at h2
                        omega
                      have hgn : base ≤ wr.heap.size := Nat.le_trans (by have := hb.size; omega) HQQ.out.size
                      have HSTT := Lib.hid hst
                      have HOKM := Lib.hid hokm
                      have HMV : Hid (m.v = .slice m.A m.n m.c) := Lib.hid rfl
                      have HMD := Lib.hid hmd
                      have HG2 := Lib.hid hN'
                      have HW2 := Lib.hid hS'
                      have HP := Lib.hid hpn
                      have HSUB := Lib.hid hsubi
                      have hgl := hst.bk.lt
                      have HOWG : Hid (wr.ownsRow base 30 1 (.slice NA' pn nc') pn (msV Ns')) := Lib.hid (by rw [hpn]; exact hst.new)
                      clear hst hokm hmd hN' hS' hpn hsubi hrd hm HEE
                      generalize m.A = mA at *
                      generalize m.n = mn' at *
                      generalize m.c = mc at *
                      go_wp2_with
                        (at_builtin
                         go_must (refine wpList_append_one _ rfl (.tmp 119) (.tmp 121) _ rfl base 30 i0 (.slice none 0 0) 1 24 Try.underlying74 hi0 hz0 hz1 hz2 rfl (by decide) (.slice NA' pn nc') pn _ rfl (HOWG.out.alloc _) wr.heap.size 1 30 #[.slice mA mn' mc] rfl (Bk.new _ _ _) rfl ?c1 (pn + 1) rfl ?c2 ?c3 ?c4 ?_)
                         case c1 => simp [Value.oneCell']
                         case c2 => unfold maxLen; omega
                         case c3 => omega
                         case c4 => simp; omega
                         intro g5 d5 w5 hown5 hg5 hat5
                         have hk5 : Bk w5 g 76 #[.slice SA' Ss'.length sc', .int .i64 mx, .int .i64 nx, .slice NA' Ns'.length nc'] := (HSTT.out.bk.alloc _).grown hg5 (fun e => HSTT.out.ne_new (by rw [own_blk_to] at e; exact e.symm))
                         have j2 : w5.cell? ⟨g, 2, none⟩ = some (.int .i64 nx) := hk5.cell 2
                         have j3 : w5.cell? ⟨g, 3, none⟩ = some (.slice NA' pn nc') := by have h := hk5.cell 3; rw [← HP.out] at h; exact h
                         have i2 := hk5.frozen 2
                         have i3 := hk5.frozen 3
                         have HOWN5 := Lib.hid hown5
                         have HG5 := Lib.hid hg5
                         have HAT5 := Lib.hid hat5
                         clear hown5 hg5 hat5 hk5)
                      go_roundw
                      case rel =>
                        obtain ⟨Fj, hst5, hsub5, hq5⟩ := HSTT.out.push HOKM.out HP.out (by rw [HMV.out]; exact HOWN5.out) (by rw [HMV.out]; exact HG5.out) (by rw [HMV.out]; exact HAT5.out)
                        rw [show ((nx + 1 : Nat) : Int) = (nx : Int) + 1 by omega] at hst5 hq5
                        have hhit := dvN_hit (f := vb) (next := came) (L := Ls.map Ms.dat) (k := k) (by rw [← HNX.out]; exact heq)
                        have hle := dvN_le vb came (Ls.map Ms.dat) k
                        rw [← HNX.out] at hle
                        first
                          | exact ⟨k + 1, nx + 1, by omega, by go_num, by omega, Lib.hid (by rw [hhit, ← HNX.out]), Lib.hid ⟨Fj, ⟨_, _, _, _, _, _, hst5, HW2.out, by rw [hhit, List.map_append, HG2.out, HMD.out]; simp⟩, HSUB.out.trans hsub5 HQQ.out.size⟩, Lib.hid (HQQ.out.trans hq5 HSUB.out)⟩
                          | exact ⟨.int .i64 k, .slice mA mn' mc, .int .i64 ((k : Int) + 1), ⟨k + 1, by omega, by go_num, nx + 1, by omega, Lib.hid (by rw [hhit, ← HNX.out]), Lib.hid ⟨Fj, ⟨_, _, _, _, _, _, hst5, HW2.out, by rw [hhit, List.map_append, HG2.out, HMD.out]; simp⟩, HSUB.out.trans hsub5 HQQ.out.size⟩, Lib.hid (HQQ.out.trans hq5 HSUB.out)⟩, rfl, rfl, rfl⟩
                      case measure => simp [intOf]; omega
                    · have hei : ((vb : Int) + (k : Int) == (nx : Int)) = false := by simp; omega
                      have hmiss := dvN_miss (f := vb) (next := came) (L := Ls.map Ms.dat) (k := k) (by rw [← HNX.out]; exact heq)
                      have HMISS := Lib.hid hmiss
                      generalize m.A = mA at *
                      generalize m.n = mn' at *
                      generalize m.c = mc at *
                      clear hst hokm hmd hN' hS' hsubi hrd hm hmiss
                      go_wp2_with fail
                      go_roundw
                      case rel => exact ⟨k + 1, nx, by omega, by go_num, hnx, Lib.hid (by rw [HMISS.out]; exact HNX.out), Lib.hid (by rw [HMISS.out]; exact HEE.out), HQQ⟩
                      case measure => simp [intOf]; omega
                  · obtain rfl : k = q := by omega
                    go_wp2_with fail
                    go_ret
                    have hLk : (Ls.map Ms.dat).length = k := by rw [List.length_map, hlen0]
                    obtain ⟨Fi, hEi, hsubi⟩ := HEE.out
                    unfold TakeP
                    rw [tkR_ok (by rw [HOR.out]) (by rw [HOR.out, HSL.out]; exact hord), HOR.out]
                    simp only
                    rw [hLk, ← HMX.out, ← HNX.out]
                    have hbw2 : Below w.heap.size w wo := by rw [← HB0.out]; exact hb
                    exact ⟨Fi, rfl, hEi, hsubi.weak hbw2.size, (Fq.of_below hbw2).trans HQQ.out (SubF.refl _ _)⟩
    · have hdec : decide (T = bigB S' 8) = false := decide_eq_false hsumok
      rw [hdec] at HEQ
      go_wp2_with fail
      refine HEQ.out.mono ?_
      rintro e w3 ⟨rfl, rfl⟩
      go_wp2_with fail
      go_ret
      exact TakeP.err (k := 13) HH.out (openR_sum H17.out (by rw [HTD.out, HSS.out]; exact hsumok)) (by omega) (by rw [← HB0.out]; exact hbb)
end Go.Proofs.Ytlgcdcjfobfoiaa
