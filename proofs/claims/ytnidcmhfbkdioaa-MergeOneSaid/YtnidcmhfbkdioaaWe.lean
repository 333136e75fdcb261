/-
  The contract of kind.Holds. Conditions: what is read can be read.
-/
import Derived.Test.YtnidcmhfbkdioaaWd
namespace Go.Proofs.Ytnidcmhfbkdioaa
open Go.RowKit
set_option maxRecDepth 100000

def holdsF (nm : ByteArray) (fds : List Fd) (vals : List Int) : Bool := decide ((fitF nm fds vals).2 = 0) && decide ((fitF nm fds vals).1 = vals)
theorem fitF_ok {nm : ByteArray} {fds : List Fd} {vals : List Int} (h : (fitF nm fds vals).2 = 0) : (fitF nm fds vals).1.length = vals.length := by
  unfold fitF at h ⊢
  split at h
  · rename_i h1; exact absurd h h1
  · rename_i h1
    rw [if_neg h1]
    split at h
    · cases h
    · rename_i h2
      rw [if_neg h2]
      unfold zipF
      rw [List.length_zipWith]
      omega

set_option maxHeartbeats 3200000 in
theorem holds_any (nm : ByteArray) (fA : Option Addr) (fn fc : Nat) (fds : List Fd) (A : Option Addr) (n c B : Nat) (vals : List Int) (w : World) (hr : Rd w B 3 fA fn (fdCs fds)) (hfn : fn = fds.length) (hfc : fn ≤ fc) (hfc2 : fc ≤ 9223372036854775807)
    (hv : Rd w B 1 A n (vals.map (Value.int .i64))) (hn : n = vals.length) (hnc : n ≤ c) (hc2 : c ≤ 9223372036854775807) (hB : B ≤ w.heap.size) :
    Calls Try.prog 174 #[.agg #[.string nm, .slice fA fn fc], .slice A n c] w fun e w' => e = .returned (.bool (holdsF nm fds vals)) ∧ Below w.heap.size w w' := by
  have hb1 := (Below.refl w.heap.size w).alloc (Nat.le_refl _) (.cells #[.string nm, .slice fA fn fc] 63)
  have HO := Lib.hid (fit_any nm fA fn fc fds A n c B vals _ (hr.below (hb1.mono hB)) hfn hfc hfc2 (hv.below (hb1.mono hB)) hn hnc hc2 (by simp; omega))
  have HV := Lib.hid hv
  have HB1 := Lib.hid hb1
  have HN := Lib.hid hn
  clear hb1 hr hv hfn hn
  obtain ⟨L, hL⟩ : ∃ L, L = (fitF nm fds vals).1 := ⟨_, rfl⟩
  obtain ⟨r, hr⟩ : ∃ r, r = (fitF nm fds vals).2 := ⟨_, rfl⟩
  obtain ⟨R, hR⟩ : ∃ R, R = holdsF nm fds vals := ⟨_, rfl⟩
  have hRv : R = (decide (r = 0) && decide (L = vals)) := by rw [hR, hr, hL]; rfl
  have hlen : r = 0 → L.length = n := fun h => by rw [hL, HN.out]; exact fitF_ok (by rw [← hr]; exact h)
  have HO2 : Hid (Calls Try.prog 156 #[.agg #[.string nm, .slice fA fn fc], .slice A n c] (w.alloc (.cells #[.string nm, .slice fA fn fc] 63)) (FitP (w.alloc (.cells #[.string nm, .slice fA fn fc] 63)) (L, r))) := Lib.hid (by rw [hL, hr]; exact HO.out)
  rw [← hR]
  have HRV := Lib.hid hRv
  have HLEN := Lib.hid hlen
  clear hL hr hR HO hRv hlen
  go_enter Try.func174, Try.ntmps174
  go_wp2_with fail
  refine HO2.out.mono ?_
  rintro e w2 ⟨A2, c2, rfl, hown, hb2⟩
  dsimp only at hown
  have hrd := Rd.of_own hown
  have HR2 := Lib.hid hrd
  have HB2 := Lib.hid (HB1.out.trans (hb2.mono (by simp)))
  clear hown hb2 hrd
  obtain ⟨q, hq⟩ : ∃ q, q = L.length := ⟨_, rfl⟩
  rw [← hq] at HR2 HLEN
  dsimp only
  rw [← hq]
  have HQ := Lib.hid hq
  clear hq
  by_cases h0 : r = 0
  · have hqn : q = n := HLEN.out h0
    subst h0 hqn
    have hRv := HRV.out
    rw [decide_eq_true rfl, Bool.true_and] at hRv
    have HRX := Lib.hid hRv
    clear hRv
    go_wp2_with fail
    go_loopw [18] (fun iv wr => ∃ k : Nat, k ≤ q ∧ iv = .int .i64 k ∧ L.take k = vals.take k ∧ Hid (Below w2.heap.size w2 wr)) (fun iv _ => q - (intOf iv).toNat)
    case atStart => exact ⟨0, Nat.zero_le _, rfl, rfl, Lib.hid (Below.refl _ _)⟩
    case round =>
      obtain ⟨k, hk, rfl, hT, HW⟩ := hrel
      have HT := Lib.hid hT
      clear hT
      by_cases hlt : k < q
      · have e1 := HN.out
        have e2 := HQ.out
        obtain ⟨x, hx⟩ : ∃ x, L[k]? = some x := ⟨_, List.getElem?_eq_getElem (by omega)⟩
        obtain ⟨y, hy⟩ : ∃ y, vals[k]? = some y := ⟨_, List.getElem?_eq_getElem (by omega)⟩
        obtain ⟨b, o, rfl, _, c0⟩ := (HR2.out.below HW.out).at1 hlt (u := .int .i64 x) (by rw [List.getElem?_map, hx]; rfl)
        obtain ⟨b', o', rfl, _, c1⟩ := ((HV.out.below (HB2.out.mono hB)).below (HW.out.mono (Nat.le_trans hB HB2.out.size))).at1 hlt (u := .int .i64 y) (by rw [List.getElem?_map, hy]; rfl)
        have HX := Lib.hid hx
        have HY := Lib.hid hy
        have hkn : (k : Int) < q := by omega
        clear e1 e2 hx hy
        go_wp2_with fail
        go_quiet (fail)
        by_cases hxy : x = y
        · have t1 : (x != y) = false := by simp [hxy]
          have HXY := Lib.hid hxy
          have HW2 := Lib.hid (below_dn HW.out nq)
          clear hxy
          go_wp2_with fail
          go_roundw
          case measure => simp [intOf]; omega
          case rel => exact ⟨k + 1, by omega, by go_num, take_eq_succ HX.out HY.out HT.out HXY.out, HW2⟩
        · have t1 : (x != y) = true := by simp; omega
          have HXY := Lib.hid hxy
          have HW2 := Lib.hid (below_dn HW.out nq)
          clear hxy
          go_wp2_with fail
          go_ret
          exact ⟨ret_b (by rw [HRX.out]; simp [ne_of_at HX.out HY.out HXY.out]), HB2.out.trans (HW2.out.mono HB2.out.size)⟩
      · obtain rfl : k = q := by omega
        go_wp2_with fail
        go_ret
        have h1 := HT.out
        rw [List.take_of_length_le (by rw [← HQ.out]; omega), List.take_of_length_le (by rw [← HN.out]; omega)] at h1
        exact ⟨ret_b (by rw [HRX.out]; simp [h1]), HB2.out.trans (HW.out.mono HB2.out.size)⟩
  · have hRv := HRV.out
    rw [decide_eq_false h0, Bool.false_and] at hRv
    subst hRv
    go_wp2_with fail
    go_ret
    exact ⟨rfl, HB2.out⟩
end Go.Proofs.Ytnidcmhfbkdioaa
