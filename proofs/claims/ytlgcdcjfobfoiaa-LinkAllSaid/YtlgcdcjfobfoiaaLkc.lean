/-
  The contract of link.open. Conditions: bytes that can be read.
-/
import Derived.Test.YtlgcdcjfobfoiaaLkb
namespace Go.Proofs.Ytlgcdcjfobfoiaa
open Go.RowKit
set_option maxRecDepth 100000

/-- What open returns. -/
def OpenP (w : World) (l : List Nat) (e : Ending) (w' : World) : Prop :=
  ∃ (Ls : List Ms) (A : Option Addr) (c : Nat), e = .returned (.tuple #[.int .i64 (openR l).1.1, .int .i64 (openR l).1.2.1, .slice A Ls.length c, .int .i64 (openR l).2]) ∧ Ls.map Ms.dat = (openR l).1.2.2 ∧
    w'.ownsRow w.heap.size 30 1 (.slice A Ls.length c) Ls.length (msV Ls) ∧ (∀ m ∈ Ls, MsOk w' m) ∧ Below w.heap.size w w'
theorem OpenP.err {w w' : World} {l : List Nat} {k : Nat} (h : openR l = ((0, 0, []), k)) (hb : Below w.heap.size w w') : OpenP w l (.returned (.tuple #[.int .i64 0, .int .i64 0, .slice none 0 0, .int .i64 k])) w' :=
  ⟨[], none, 0, by rw [h]; rfl, by rw [h]; rfl, World.ownsRow_nil _ _ _ _, by simp, hb⟩

theorem Below.dn {B : Nat} {w w' : World} (h : Below B w w') (n : Nat) : Below B w (w'.drewN n) := ⟨h.os, h.tape, h.output, h.size, h.block⟩

/-- What a round of the reading needs of its world. -/
structure OpInv (w : World) (B0 : Nat) (Ls : List Ms) (LA : Option Addr) (q lc : Nat) (MA : Option Addr) (LB : Nat) (md : List Nat) (RA : Option Addr) (p : Nat) (r : List Nat) (w' : World) : Prop where
  own : w'.ownsRow B0 30 1 (.slice LA q lc) q (msV Ls)
  ok : ∀ m ∈ Ls, MsOk w' m
  msg : Rd w' B0 1 MA LB (bytesV md)
  rest : Rd w' B0 1 RA p (bytesV r)
  bel : Below B0 w w'
theorem OpInv.dn {w : World} {B0 : Nat} {Ls : List Ms} {LA : Option Addr} {q lc : Nat} {MA : Option Addr} {LB : Nat} {md : List Nat} {RA : Option Addr} {p : Nat} {r : List Nat} {w' : World} (h : OpInv w B0 Ls LA q lc MA LB md RA p r w') (n : Nat) : OpInv w B0 Ls LA q lc MA LB md RA p r (w'.drewN n) :=
  ⟨h.own, fun m hm => (h.ok m hm).byt fun _ _ h => h, h.msg, h.rest, Below.dn h.bel n⟩

set_option maxHeartbeats 3200000 in
theorem open_any (A : Option Addr) (n c B0 : Nat) (l : List Nat) (w : World) (hB0 : B0 = w.heap.size) (hr : Rd w B0 1 A n (bytesV l)) (hn : n = l.length) (hc : n ≤ c) (hc2 : c ≤ 9223372036854775807) (hl : ∀ b ∈ l, b < 256) :
    Calls Try.prog 79 #[.slice A n c] w (OpenP w l) := by
  obtain ⟨i0, hi0, hz0, hz1, hz2⟩ := info_parts T.info30
  by_cases h17 : n < 17
  · have HR := Lib.hid (openR_short (l := l) (by omega))
    clear hr hn hl
    go_enter Try.func79, Try.ntmps79
    go_wp2_with fail
    (try simp only [Exit.inBlock, Exit.then])
    refine bodyPost_ret (results_tmp4 rfl _ _ _) rfl ?_
    exact OpenP.err (k := 14) HR.out (Below.refl _ _)
  · obtain ⟨m, hm⟩ : ∃ m, n = m + 8 := ⟨n - 8, by omega⟩
    have hnm : (n : Int) - 8 = (m : Int) := by omega
    have hmn : n - m = 8 := by omega
    have hmc : m ≤ c := by omega
    have hm9 : 9 ≤ m := by omega
    have h17' : ¬ l.length < 17 := by omega
    have hbody : bodyO l = l.take m := by unfold bodyO; rw [← hn, hm]; simp
    have htl : l.drop (l.length - 8) = l.drop m := by rw [← hn, hm]; simp
    have cutB := upto_30 A n c m hmc
    have cutT := cut_30 A n c m (by omega)
    have hrB : Rd w B0 1 A m (bytesV (bodyO l)) := by rw [hbody]; rw [bytesV_take]; exact hr.take (by omega)
    have hrT := hr.cut (c := c) (k := m) (by omega) hc
    rw [← bytesV_drop, hmn] at hrT
    rw [hmn] at cutT
    obtain ⟨T, hT⟩ : ∃ T, T = l.drop m := ⟨_, rfl⟩
    rw [← hT] at hrT htl
    have hTl : T.length = 8 := by rw [hT, List.length_drop]; omega
    obtain ⟨Bd, hBd⟩ : ∃ Bd, Bd = bodyO l := ⟨_, rfl⟩
    have hBl : m = Bd.length := by rw [hBd, hbody, List.length_take]; omega
    have hBlt : ∀ b ∈ Bd, b < 256 := fun b hb => hl b (by rw [hBd, hbody] at hb; exact List.mem_of_mem_take hb)
    rw [← hBd] at hrB
    have hr2 := sumBy_rng Bd
    obtain ⟨S, hS⟩ := Int.eq_ofNat_of_zero_le hr2.1
    rw [hS] at hr2
    have hS2 : S < 18446744073709551616 := by have := hr2.2; omega
    have hsum := sumBytes_any A m c B0 Bd w hrB hBl hmc hc2
    rw [hS] at hsum
    have HSUM := Lib.hid hsum
    have HSS : Hid ((sumBy (bodyO l)).toNat = S) := Lib.hid (by rw [← hBd, hS, Int.toNat_natCast])
    have HRB := Lib.hid hrB
    have HRT := Lib.hid hrT
    have HTL := Lib.hid hTl
    have HBD := Lib.hid hBd
    have HBL := Lib.hid hBl
    have HBLT := Lib.hid hBlt
    have H17 := Lib.hid h17'
    have HTD := Lib.hid htl
    have HB0 := Lib.hid hB0
    have HTLT : Hid (∀ b ∈ T, b < 256) := Lib.hid fun b hb => hl b (by rw [hT] at hb; exact List.mem_of_mem_drop hb)
    clear hr hn hl hbody htl hrB hrT hT hTl hBd hBl hBlt hr2 hS hsum h17' hB0 hm hmn
    generalize cutA A c m = TA at *
    generalize c - m = tc at *
    go_enter Try.func79, Try.ntmps79
    go_wp2_with fail
    refine HSUM.out.mono ?_
    rintro e w1 ⟨rfl, m1, rfl⟩
    have hb1 : Below B0 w (w.drewN m1) := by rw [HB0.out]; exact ⟨rfl, rfl, rfl, Nat.le_refl _, fun _ _ => rfl⟩
    have HRB1 := Lib.hid (HRB.out.below hb1)
    have HRT1 := Lib.hid (HRT.out.below hb1)
    generalize w.drewN m1 = w1 at *
    clear HSUM
    go_wp2_with fail
    go_loopw [4, 8, 9, 27] (fun v4 _ _ i wr => ∃ k d : Nat, v4 = .slice none 0 0 ∧ Hid (k + d = 8) ∧ d ≤ 8 ∧ k ≤ 8 ∧ i = .int .i64 k ∧ Hid (T.take k = (bigB S 8).take k) ∧ wr = w1) (fun _ _ _ i _ => (8 - intOf i).toNat)
    case atStart => exact ⟨0, 8, rfl, Lib.hid rfl, Nat.le_refl _, Nat.zero_le _, rfl, Lib.hid (by simp), rfl⟩
    case round =>
      obtain ⟨k, d, rfl, HK, hd, hk, rfl, HT, rfl⟩ := hrel
      cases d with
      | succ d =>
        have hk8 : (k : Int) < 8 := by have := HK.out; omega
        have hx := bytesV_get T k (by have := HTL.out; omega)
        obtain ⟨tb, to_, rfl, _, c0⟩ := HRT1.out.at1 (by omega) hx
        have hx8 := getD_lt HTLT.out k
        have hsh : 56 - 8 * (k : Int) = 8 * (d : Int) := by have := HK.out; omega
        have hd0 : 0 ≤ 8 * (d : Int) := by omega
        have hd64 : 8 * (d : Int) < 64 := by omega
        obtain ⟨y, hy⟩ : ∃ y : Nat, y = S / 2 ^ (8 * d) % 256 := ⟨_, rfl⟩
        have hy2 : (S : Int) / 2 ^ (8 * d) % 256 = (y : Int) := by rw [hy]; simp
        obtain ⟨x, hxx⟩ : ∃ x, x = T.getD k 0 := ⟨_, rfl⟩
        rw [← hxx] at c0 hx8
        have HX := Lib.hid hxx
        have HY := Lib.hid hy
        clear hx hxx hy
        by_cases hxy : x = y
        · subst hxy
          go_wp2_with fail
          go_roundw
          case rel => exact ⟨k + 1, d, rfl, Lib.hid (by have := HK.out; omega), by omega, by omega, by go_num, Lib.hid (take_more HK.out HTL.out HT.out (by rw [← HX.out, HY.out])), by first | rfl | trivial⟩
          case measure => simp [intOf]; omega
        · have hne : ((x : Int) == (y : Int)) = false := by simp; omega
          go_wp2_with fail
          (try simp only [Exit.inBlock, Exit.then])
          refine bodyPost_ret (results_tmp4 rfl _ _ _) rfl ?_
          exact OpenP.err (k := 13) (openR_sum H17.out (by rw [HTD.out, HSS.out]; exact take_not HK.out (by rw [← HX.out, ← HY.out]; exact hxy))) (by rw [← HB0.out]; exact hb1)
      | zero =>
        obtain rfl : k = 8 := by have := HK.out; omega
        have hsumok : l.drop (l.length - 8) = bigB (sumBy (bodyO l)).toNat 8 := by
          have h1 := HT.out
          rw [List.take_of_length_le (by rw [HTL.out]; exact Nat.le_refl _), List.take_of_length_le (by rw [bigB_length]; exact Nat.le_refl _)] at h1
          rw [HTD.out, HSS.out, h1]
        have HOK := Lib.hid hsumok
        clear hsumok
        have HV1 : Hid (∀ q, Calls Try.prog 96 #[.slice A m c] (wr.drewN q) fun e w' => e = .returned (.int .i64 (val4 Bd)) ∧ ∃ k, w' = (wr.drewN q).drewN k) := Lib.hid fun q => (value_any A m c B0 Bd (wr.drewN q) HRB1.out HBL.out (by omega) HBLT.out).mono fun _ _ h => ⟨h.1, by obtain ⟨k, h⟩ := h.2; exact ⟨k, h.symm⟩⟩
        have cut4 : ∀ wx, (Instr.sliceAt 30 (.slice A m c) (some (.int .i64 4)) none none).run Try.prog wx = .ok (.slice (cutA A c 4) (m - 4) (c - 4)) wx := cut_30 A m c 4 (by omega)
        have HV2 : Hid (∀ q, Calls Try.prog 96 #[.slice (cutA A c 4) (m - 4) (c - 4)] (wr.drewN q) fun e w' => e = .returned (.int .i64 (val4 (Bd.drop 4))) ∧ ∃ k, w' = (wr.drewN q).drewN k) := Lib.hid fun q => (value_any (cutA A c 4) (m - 4) (c - 4) B0 (Bd.drop 4) (wr.drewN q) (by rw [bytesV_drop]; exact HRB1.out.cut (by omega) hmc) (by rw [List.length_drop, ← HBL.out]) (by omega) (fun b hb => HBLT.out b (List.mem_of_mem_drop hb))).mono fun _ _ h => ⟨h.1, by obtain ⟨k, h⟩ := h.2; exact ⟨k, h.symm⟩⟩
        have cut9 : ∀ wx, (Instr.sliceAt 30 (.slice A m c) (some (.int .i64 9)) none none).run Try.prog wx = .ok (.slice (cutA A c 9) (m - 9) (c - 9)) wx := cut_30 A m c 9 (by omega)
        have hrd9 : Rd wr B0 1 (cutA A c 9) (m - 9) (bytesV (Bd.drop 9)) := by rw [bytesV_drop]; exact HRB1.out.cut (by omega) hmc
        have hlen9 : m - 9 = (Bd.drop 9).length := by rw [List.length_drop, ← HBL.out]
        have hcap9 : m - 9 ≤ c - 9 := by omega
        have hcap9' : c - 9 ≤ 9223372036854775807 := by omega
        generalize cutA A c 4 = A4 at *
        generalize m - 4 = m4 at *
        generalize c - 4 = c4 at *
        obtain ⟨tb, to_, hAe, _, c8⟩ := HRB1.out.at1 (k := 8) (by omega) (bytesV_get Bd 8 (by have := HBL.out; omega))
        obtain ⟨mn, hmn⟩ : ∃ mn, mn = Bd.getD 8 0 := ⟨_, rfl⟩
        have hmn8 : mn < 256 := by rw [hmn]; exact getD_lt HBLT.out 8
        rw [← hmn] at c8
        have HMN := Lib.hid hmn
        have HRD9 := Lib.hid hrd9
        have HLEN9 := Lib.hid hlen9
        have h8m : (8 : Int) < m := by omega
        clear hrd9 hlen9 hmn
        generalize cutA A c 9 = A9 at *
        generalize m - 9 = m9 at *
        generalize c - 9 = c9 at *
        obtain ⟨va, hva⟩ : ∃ va, va = val4 Bd := ⟨_, rfl⟩
        obtain ⟨vb, hvb⟩ : ∃ vb, vb = val4 (Bd.drop 4) := ⟨_, rfl⟩
        rw [← hva] at HV1
        rw [← hvb] at HV2
        have HVA := Lib.hid hva
        have HVB := Lib.hid hvb
        have HR4 : Hid (∀ b ∈ Bd.drop 9, b < 256) := Lib.hid fun b hb => HBLT.out b (List.mem_of_mem_drop hb)
        have HB9 : Hid (parseB mn (Bd.drop 9) = parseB ((bodyO l).getD 8 0) ((bodyO l).drop 9)) := Lib.hid (by rw [HMN.out, HBD.out])
        clear hva hvb
        subst hAe
        go_wp2_with fail
        go_quiet ((go_at_call 96; first | (with_reducible exact Calls.quiet_of (HV1.out _)) | (with_reducible exact Calls.quiet_of (HV2.out _))))
        go_wp2_with fail
        have hbw : Below B0 w (wr.drewN nq) := ⟨hb1.os, hb1.tape, hb1.output, hb1.size, hb1.block⟩
        have HRD9' : Hid (Rd (wr.drewN nq) B0 1 A9 m9 (bytesV (Bd.drop 9))) := Lib.hid HRD9.out
        generalize wr.drewN nq = w2 at *
        clear HV1 HV2 HRD9 cut4 cut9 cutB cutT c8 HRB1 HRT1 hb1
        obtain ⟨R, hR⟩ : ∃ R, R = parseB mn (Bd.drop 9) := ⟨_, rfl⟩
        rw [← hR] at HB9
        have HRR := Lib.hid hR
        clear hR
        go_loopw [2, 3, 4, 6, 11, 53] (fun v2 v3 ls bd _ i wr => ∃ (Ls : List Ms) (q p k kk : Nat) (LA RA : Option Addr) (lc rc : Nat) (r : List Nat), v2 = .int .i64 va ∧ v3 = .int .i64 vb ∧ ls = .slice LA q lc ∧ bd = .slice RA p rc ∧ i = .int .i64 k ∧ k + kk = mn ∧ q = k ∧ p ≤ rc ∧ rc ≤ 9223372036854775807 ∧ Hid (q = Ls.length ∧ p = r.length ∧ (∀ b ∈ r, b < 256) ∧ AtB R kk (Ls.map Ms.dat) r) ∧ Hid (Rd wr B0 1 RA p (bytesV r)) ∧ Hid (wr.ownsRow B0 30 1 (.slice LA q lc) q (msV Ls)) ∧ Hid (∀ m ∈ Ls, MsOk wr m) ∧ Below B0 w wr) (fun _ _ _ _ _ i _ => mn - (intOf i).toNat)
        case atStart => exact ⟨[], 0, m9, 0, mn, none, A9, 0, c9, Bd.drop 9, rfl, rfl, rfl, rfl, rfl, by omega, rfl, hcap9, hcap9', Lib.hid ⟨rfl, HLEN9.out, HR4.out, by rw [HRR.out]; exact AtB.start _ _⟩, HRD9', Lib.hid (World.ownsRow_nil _ _ _ _), Lib.hid (by simp), hbw⟩
        case round =>
          obtain ⟨Ls, q, p, k, kk, LA, RA, lc, rc, r, rfl, rfl, rfl, rfl, rfl, hkk, hqk, hprc, hrc9, HS, HRD, HOWN, HOKL, hb⟩ := hrel
          clear hbw HRD9'
          subst hqk
          cases kk with
          | succ kk =>
            have hkm : (q : Int) < mn := by omega
            by_cases hp2 : p < 2
            · have hp2i : (p : Int) < 2 := by omega
              go_wp2_with fail
              go_quiet (fail)
              go_wp2_with fail
              (try simp only [Exit.inBlock, Exit.then])
              refine bodyPost_ret (results_tmp4 rfl _ _ _) rfl ?_
              have hnone := HS.out.2.2.2.fail (by have := HS.out.2.1; omega)
              rw [HB9.out] at hnone
              exact OpenP.err (k := 3) (openR_none H17.out HOK.out hnone) (by rw [← HB0.out]; exact Below.dn hb nq)
            · have hp2i : decide ((p : Int) < 2) = false := by simp; omega
              have hx0 := bytesV_get r 0 (by have := HS.out.2.1; omega)
              have hx1 := bytesV_get r 1 (by have := HS.out.2.1; omega)
              obtain ⟨rb, ro, rfl, _, c0⟩ := HRD.out.at1 (by omega) hx0
              obtain ⟨rb', ro', he, _, c1⟩ := HRD.out.at1 (by omega) hx1
              cases he
              have hb0 := getD_lt HS.out.2.2.1 0
              have hb1 := getD_lt HS.out.2.2.1 1
              obtain ⟨LB, hLB⟩ : ∃ LB, LB = lenB r := ⟨_, rfl⟩
              have hor := or_8' _ _ hb0 hb1
              rw [show r.getD 0 0 * 256 + r.getD 1 0 = LB from hLB.symm] at hor
              have hLBlt : LB < 65536 := by rw [hLB]; exact lenB_lt HS.out.2.2.1
              have HLB := Lib.hid hLB
              clear hx0 hx1 hLB
              rw [Nat.add_zero] at c0
              generalize r.getD 0 0 = x0 at *
              generalize r.getD 1 0 = x1 at *
              have hp0i : (0 : Int) < p := by omega
              have hp1i : (1 : Int) < p := by omega
              by_cases hs : p < 2 + LB
              · have hsi : (p : Int) - 2 < LB := by omega
                go_wp2_with fail
                go_quiet (fail)
                go_wp2_with fail
                (try simp only [Exit.inBlock, Exit.then])
                refine bodyPost_ret (results_tmp4 rfl _ _ _) rfl ?_
                have hnone := HS.out.2.2.2.fail (by have := HS.out.2.1; have := HLB.out; omega)
                rw [HB9.out] at hnone
                exact OpenP.err (k := 3) (openR_none H17.out HOK.out hnone) (by rw [← HB0.out]; exact Below.dn hb nq)
              · have hsi : decide ((p : Int) - 2 < LB) = false := by simp; omega
                have hcc : ∀ wx, (Instr.sliceAt 30 (.slice (some ⟨rb, ro, none⟩) p rc) (some (.int .i64 2)) (some (.int .i64 (2 + (LB : Int)))) none).run Try.prog wx = .ok (.slice (cutA (some ⟨rb, ro, none⟩) rc 2) LB (rc - 2)) wx := fun wx => by
                  have h := between_30 (some ⟨rb, ro, none⟩) p rc 2 (2 + LB) (by omega) (by omega) wx
                  rw [show 2 + LB - 2 = LB by omega] at h
                  rw [← h]; congr 2
                have hcd : ∀ wx, (Instr.sliceAt 30 (.slice (some ⟨rb, ro, none⟩) p rc) (some (.int .i64 (2 + (LB : Int)))) none none).run Try.prog wx = .ok (.slice (cutA (some ⟨rb, ro, none⟩) rc (2 + LB)) (p - (2 + LB)) (rc - (2 + LB))) wx := cut_30 (some ⟨rb, ro, none⟩) p rc (2 + LB) (by omega)
                have hrm := HRD.out.between (c := rc) (j := 2) (k := 2 + LB) (by omega) (by omega) hprc
                rw [show 2 + LB - 2 = LB by omega] at hrm
                have hrd := HRD.out.cut (c := rc) (k := 2 + LB) (by omega) hprc
                rw [← bytesV_drop] at hrd
                have hmd : (r.drop 2).take LB = (r.drop 2).take (lenB r) := by rw [HLB.out]
                obtain ⟨md, hmdd⟩ : ∃ md, md = (r.drop 2).take LB := ⟨_, rfl⟩
                rw [← hmdd] at hrm hmd
                have hmdl : LB = md.length := by rw [hmdd, List.length_take, List.length_drop]; have := HS.out.2.1; omega
                have hmdlt : ∀ b ∈ md, b < 256 := fun b hb => HS.out.2.2.1 b (by rw [hmdd] at hb; exact List.mem_of_mem_drop (List.mem_of_mem_take hb))
                have hat := HS.out.2.2.2.step (by have := HS.out.2.1; have := HLB.out; omega)
                rw [← hmd, ← HLB.out] at hat
                have hr2l : p - (2 + LB) = (r.drop (2 + LB)).length := by rw [List.length_drop, ← HS.out.2.1]
                have hr2lt : ∀ b ∈ r.drop (2 + LB), b < 256 := fun b hb => HS.out.2.2.1 b (List.mem_of_mem_drop hb)
                have hpr2 : p - (2 + LB) ≤ rc - (2 + LB) := by omega
                have hrc2 : rc - (2 + LB) ≤ 9223372036854775807 := by omega
                have HRM : Hid (∀ q, Rd (wr.drewN q) B0 1 (cutA (some ⟨rb, ro, none⟩) rc 2) LB (bytesV md)) := Lib.hid fun _ => hrm
                have HRD2 : Hid (∀ q, Rd (wr.drewN q) B0 1 (cutA (some ⟨rb, ro, none⟩) rc (2 + LB)) (p - (2 + LB)) (bytesV (r.drop (2 + LB)))) := Lib.hid fun _ => hrd
                have HMD := Lib.hid hmdl
                have HMLT := Lib.hid hmdlt
                have HS2 : Hid (p - (2 + LB) = (r.drop (2 + LB)).length ∧ (∀ b ∈ r.drop (2 + LB), b < 256) ∧ AtB R kk (Ls.map Ms.dat ++ [md]) (r.drop (2 + LB))) := Lib.hid ⟨hr2l, hr2lt, hat⟩
                clear hrm hrd hmd hmdl hmdlt hat hr2l hr2lt hmdd
                generalize cutA (some ⟨rb, ro, none⟩) rc 2 = MA at *
                generalize cutA (some ⟨rb, ro, none⟩) rc (2 + LB) = RA2 at *
                generalize p - (2 + LB) = p2 at *
                generalize rc - (2 + LB) = rc2 at *
                generalize rc - 2 = mc at *
                generalize r.drop (2 + LB) = r2 at *
                have HO := Lib.hid (OpInv.mk HOWN.out HOKL.out (HRM.out 0) (HRD2.out 0) hb)
                clear HRM HRD2 HOKL HOWN HRD
                go_wp2_with fail
                go_quiet (fail)
                replace c0 : (wr.drewN nq).cell? ⟨rb, ro, none⟩ = some (.int .u8 x0) := c0
                replace c1 : (wr.drewN nq).cell? ⟨rb, ro + 1, none⟩ = some (.int .u8 x1) := c1
                replace HO := Lib.hid (HO.out.dn nq)
                replace hb := HO.out.bel
                generalize wr.drewN nq = wr at *
                go_wp2_with fail
                go_quiet (fail)
                replace HO := Lib.hid (HO.out.dn nq)
                replace hb := HO.out.bel
                clear c0 c1
                generalize wr.drewN nq = wr at *
                have hsz : B0 ≤ wr.heap.size := by have := hb.size; have := HB0.out; omega
                have HCL := Lib.hid (bclone_any MA LB mc B0 (bytesV md) wr HO.out.msg (bytesV_one _) hsz (by omega))
                go_wp2_with fail
                refine HCL.out.mono ?_
                rintro e w3 ⟨CA, cc, rfl, hownc, hb3⟩
                have hown3 := own_keep HO.out.own hb3
                have hsz3 := hb3.size
                have hb4 := hb.trans (hb3.mono hsz)
                have HBB := Lib.hid hb3
                have HOWC := Lib.hid hownc
                clear HCL hb3 hownc hb
                go_wp2_with
                  (at_builtin
                   go_must (refine wpList_append_one _ rfl (.tmp 84) (.tmp 90) _ rfl B0 30 i0 (.slice none 0 0) 1 24 Try.underlying74 hi0 hz0 hz1 hz2 rfl (by decide) (.slice LA q lc) q _ rfl (hown3.alloc _) w3.heap.size 1 30 #[.slice CA LB cc] rfl (Bk.new _ _ _) rfl ?c1 (q + 1) rfl ?c2 ?c3 ?c4 ?_)
                   case c1 => simp [Value.oneCell']
                   case c2 => unfold maxLen; omega
                   case c3 => omega
                   case c4 => simp; omega
                   intro g5 d5 w5 hown5 hg5 hat5
                   have hb5 := (hb4.alloc (by omega) (.cells #[.slice CA LB cc] 30)).grown hg5 (by simp; omega) (fun k hk => (hown3.lt k hk).1))
                have hb6 : Below B0 wr w5 := ((HBB.out.mono hsz).alloc (by omega) (.cells #[.slice CA LB cc] 30)).grown hg5 (by simp; omega) (fun k hk => (hown3.lt k hk).1)
                have hfq : Fq (blkA LA) w3 w5 := (Fq.refl.alloc (.cells #[.slice CA LB cc] 30)).grown hg5 (fun k hk => by
                  have h1 := own_blk_of hk
                  obtain ⟨_, cs, h2⟩ := own_blk hown3 k h1
                  exact ⟨.inl (blkA_mem.2 h1), 30, cs, h2.alloc _, by decide⟩)
                have hcap := own_cap HOWC.out
                have hok5 : ∀ m ∈ Ls ++ [⟨CA, LB, cc, md⟩], MsOk w5 m := fun m hm => by
                  rcases List.mem_append.1 hm with h1 | h1
                  · exact ((HO.out.ok m h1).below HBB.out).byt hfq.byt
                  · obtain rfl := List.mem_singleton.1 h1
                    exact MsOk.byt ⟨Tr.of_own HOWC.out, HMD.out, hcap.1, hcap.2, HMLT.out⟩ hfq.byt
                go_roundw
                case rel => exact ⟨Ls ++ [⟨CA, LB, cc, md⟩], q + 1, p2, q + 1, kk, _, RA2, d5, rc2, r2, rfl, rfl, rfl, rfl, by go_num, by omega, by omega, hpr2, hrc2, Lib.hid ⟨by have := HS.out.1; simp; omega, HS2.out.1, HS2.out.2.1, by simpa using HS2.out.2.2⟩, Lib.hid (HO.out.rest.below hb6), Lib.hid (by rw [msV_append]; exact hown5), Lib.hid hok5, hb5⟩
                case measure => simp [intOf]; omega
          | zero =>
            obtain rfl : q = mn := by omega
            have hdone := HS.out.2.2.2.done
            rw [HB9.out] at hdone
            have hlen0 : q = Ls.length := HS.out.1
            by_cases h8 : 8 < q
            · have h8i : (8 : Int) < q := by omega
              go_wp2_with fail
              (try simp only [Exit.inBlock, Exit.then])
              refine bodyPost_ret (results_tmp4 rfl _ _ _) rfl ?_
              exact OpenP.err (k := 3) (openR_form H17.out HOK.out hdone (.inl (by rw [← HBD.out, ← HMN.out]; exact h8))) (by rw [← HB0.out]; exact hb)
            · have h8i : decide ((8 : Int) < q) = false := by simp; omega
              by_cases hp : 0 < p
              · have hpi : (0 : Int) < p := by omega
                go_wp2_with fail
                (try simp only [Exit.inBlock, Exit.then])
                refine bodyPost_ret (results_tmp4 rfl _ _ _) rfl ?_
                exact OpenP.err (k := 3) (openR_form H17.out HOK.out hdone (.inr (by show 0 < r.length; rw [← HS.out.2.1]; exact hp))) (by rw [← HB0.out]; exact hb)
              · have hpi : decide ((0 : Int) < p) = false := by simp; omega
                go_wp2_with fail
                (try simp only [Exit.inBlock, Exit.then])
                refine bodyPost_ret (results_tmp4 rfl _ _ _) rfl ?_
                have hok := openR_ok H17.out HOK.out hdone (by rw [← HBD.out, ← HMN.out]; show ¬ (8 < q ∨ 0 < r.length); rw [← HS.out.2.1]; omega)
                rw [← HBD.out, ← HVA.out, ← HVB.out] at hok
                refine ⟨Ls, LA, lc, by rw [hok, ← hlen0]; rfl, by rw [hok], by rw [← hlen0, ← HB0.out]; exact HOWN.out, HOKL.out, by rw [← HB0.out]; exact hb⟩
end Go.Proofs.Ytlgcdcjfobfoiaa
