/-
  The contract of sum.Bytes. Conditions: bytes that can be read.
-/
import Derived.Test.YtlgcdcjfobfoiaaDa
import Derived.BigQuiet
namespace Go.Proofs.Ytlgcdcjfobfoiaa
open Go.RowKit
set_option maxRecDepth 100000

/-- The word of the first k bytes, as the code reckons it. -/
def wordB (l : List Nat) : Nat → Int
  | 0 => 0
  | k + 1 => Go.bits .or .u64 (wordB l k) (IntKind.u64.wrap (IntKind.u64.wrap ((l.getD k 0 : Nat) : Int) * 2 ^ (8 * k)))
theorem wordB_rng (l : List Nat) (k : Nat) : 0 ≤ wordB l k ∧ wordB l k < 18446744073709551616 := by
  cases k with
  | zero => exact ⟨Int.le_refl _, by show (0 : Int) < 18446744073709551616; decide⟩
  | succ k =>
    show 0 ≤ IntKind.u64.wrap _ ∧ IntKind.u64.wrap _ < _
    exact wrapU_rng _
/-- The digest after j words. -/
def sumC (l : List Nat) : Nat → Int
  | 0 => joinI 11170449401992604703 l.length
  | j + 1 => joinI (sumC l j) (wordB (l.drop (8 * j)) (min (l.length - 8 * j) 8))
theorem sumC_rng (l : List Nat) (j : Nat) : 0 ≤ sumC l j ∧ sumC l j < 18446744073709551616 := by
  cases j <;> exact joinI_rng _ _
def sumBy (l : List Nat) : Int := sumC l ((l.length + 7) / 8)
theorem sumBy_rng (l : List Nat) : 0 ≤ sumBy l ∧ sumBy l < 18446744073709551616 := sumC_rng _ _

theorem Rd.drop1 {w : World} {B n m c : Nat} {A : Option Addr} {l : List Nat} (h : Rd w B 1 A n (bytesV l)) (hm : m ≤ n) (hc : n ≤ c) : ∀ (b : Nat) (o : Nat), A = some ⟨b, o, none⟩ → Rd w B 1 (if c = m then some ⟨b, o, none⟩ else some ⟨b, o + m, none⟩) (n - m) (bytesV (l.drop m)) := by
  intro b o hA
  have hl := h.1
  rw [bytesV_length] at hl
  by_cases he : n - m = 0
  · have : l.drop m = [] := List.drop_eq_nil_of_le (by omega)
    rw [he, this]; exact Rd.nil_ _
  · rw [if_neg (by omega)]
    refine ⟨by rw [bytesV_length, List.length_drop]; omega, fun _ => ?_⟩
    obtain ⟨b', o', hA', hb, hcell⟩ := h.2 (by omega)
    rw [hA] at hA'
    cases hA'
    refine ⟨b, o + m, rfl, hb, fun j v hv => ?_⟩
    have h1 : (bytesV l)[m + j]? = some v := by
      rw [← hv]; unfold bytesV; rw [List.getElem?_map, List.getElem?_map, List.getElem?_drop]
    have := hcell (m + j) v h1
    rwa [← Nat.add_assoc] at this

theorem bytes_drop8 (l : List Nat) (n j q k : Nat) (hn : n = l.length) (hq : q = n - 8 * j) (hk : k = min q 8) : bytesV (l.drop (8 * (j + 1))) = bytesV (l.drop (8 * j + k)) := by
  by_cases h8 : q ≤ 8
  · rw [List.drop_eq_nil_of_le (by omega), List.drop_eq_nil_of_le (by omega)]
  · rw [show 8 * (j + 1) = 8 * j + k by omega]

set_option maxHeartbeats 1600000 in
theorem sumBytes_any (A : Option Addr) (n c B : Nat) (l : List Nat) (w : World) (hr : Rd w B 1 A n (bytesV l)) (hn : n = l.length) (hc : n ≤ c) (hc1 : c ≤ 9223372036854775807) :
    Calls Try.prog 76 #[.slice A n c] w fun e w' => e = .returned (.int .u64 (sumBy l)) ∧ ∃ q, w.drewN q = w' := by
  have HR := Lib.hid hr
  have HN := Lib.hid hn
  have HJ0 : Hid (∀ wx, Calls Try.prog 94 #[.int .u64 11170449401992604703, .int .u64 n] wx fun e w' => e = .returned (.int .u64 (sumC l 0)) ∧ wx = w') := Lib.hid fun wx => by
    have h := join_any 11170449401992604703 (n : Int) wx (by decide) (by decide) (by omega) (by omega)
    unfold sumC; rw [← hn]; exact h
  clear hr hn
  go_enter Try.func76, Try.ntmps76
  go_wp2_with fail
  refine (HJ0.out _).mono ?_
  rintro e w1 ⟨rfl, rfl⟩
  go_wp2_with fail
  go_loopw [0, 3] (fun b d wr => ∃ (j q : Nat) (A' : Option Addr) (c' : Nat), Hid (q = n - 8 * j) ∧ Hid (j ≤ (n + 7) / 8) ∧ b = .slice A' q c' ∧ d = .int .u64 (sumC l j) ∧ q ≤ c' ∧ c' ≤ 9223372036854775807 ∧ Hid (Rd wr B 1 A' q (bytesV (l.drop (8 * j)))) ∧ Hid (∃ m, wr = w.drewN m)) (fun b _ _ => match b with | .slice _ q _ => q | _ => 0)
  case atStart => exact ⟨0, n, A, c, Lib.hid (by omega), Lib.hid (by omega), rfl, rfl, hc, hc1, Lib.hid (by simpa using HR.out), Lib.hid ⟨0, rfl⟩⟩
  case round =>
    obtain ⟨j, q, A', c', HQ, HJ, rfl, rfl, hqc, hc2, HRD, HWR⟩ := hrel
    obtain ⟨wo, rfl⟩ : ∃ wo : World, wo = wr := ⟨_, rfl⟩
    by_cases h0 : 0 < q
    · obtain ⟨t, ht⟩ : ∃ t, t = min q 8 := ⟨_, rfl⟩
      have ht1 : t ≤ q ∧ t ≤ 8 ∧ 0 < t := by omega
      have hmin : min (q : Int) 8 = (t : Int) := by omega
      obtain ⟨ht2, ht3, ht4⟩ := ht1
      have htc : (t : Int) ≤ c' := by omega
      have HT := Lib.hid ht
      clear ht
      have hlen : (l.drop (8 * j)).length = q := by have := HRD.out.1; rw [bytesV_length] at this; simpa using this
      have HLEN := Lib.hid hlen
      clear hlen
      generalize hLL : l.drop (8 * j) = LL at *
      have HLL := Lib.hid hLL
      clear hLL
      go_wp2_with fail
      go_loopw [4, 20] (fun wd i wr2 => ∃ k : Nat, k ≤ t ∧ i = .int .i64 k ∧ wd = .int .u64 (wordB LL k) ∧ wr2 = wo) (fun _ i _ => t - (intOf i).toNat)
      case atStart => exact ⟨0, Nat.zero_le _, rfl, rfl, rfl⟩
      case round =>
        obtain ⟨k, hk, rfl, rfl, rfl⟩ := hrel
        by_cases hkt : k < t
        · obtain ⟨x, hx⟩ : ∃ x, x = LL.getD k 0 := ⟨_, rfl⟩
          obtain ⟨xb, xo, rfl, _, hcx⟩ := (Rd.at1 (HRD.out) (k := k) (u := .int .u8 (x : Int)) (by omega) (by rw [bytesV_get _ _ (by have := HLEN.out; omega), hx]))
          have HX := Lib.hid hx
          clear hx
          go_wp2_with fail
          go_roundw
          case rel => exact ⟨k + 1, by omega, by go_num, by rw [wordB, ← HX.out], by first | rfl | trivial⟩
          case measure => simp [intOf]; omega
        · obtain rfl : k = t := by omega
          have hd := sumC_rng l j
          have hw := wordB_rng LL k
          have HJ2 : Hid (∀ wx, Calls Try.prog 94 #[.int .u64 (sumC l j), .int .u64 (wordB LL k)] wx fun e w' => e = .returned (.int .u64 (joinI (sumC l j) (wordB LL k))) ∧ wx = w') := Lib.hid fun wx => join_any _ _ wx hd.1 hd.2 hw.1 hw.2
          obtain ⟨xb, xo, hA, _⟩ := HRD.out.2 h0
          have HD1 := Lib.hid ((HRD.out).drop1 ht2 hqc xb xo hA)
          subst hA
          clear hd hw
          by_cases hct : c' = k
          · obtain rfl : c' = q := by omega
            subst hct
            go_wp2_with fail
            go_quiet ((go_at_call 94; exact Calls.quiet_of_same ((HJ2.out _).mono fun _ _ h => ⟨h.1, h.2.symm⟩)))
            go_wp2_with fail
            go_roundw
            case rel => exact ⟨j + 1, 0, some ⟨xb, xo, none⟩, 0, Lib.hid (by have := HQ.out; omega), Lib.hid (by have := HQ.out; omega), by go_num, by rw [sumC, HLL.out, show min (l.length - 8 * j) 8 = c' by have := HQ.out; have := HN.out; omega], by omega, by omega, Lib.hid (by rw [List.drop_eq_nil_of_le (by have := HQ.out; have := HN.out; omega)]; exact Rd.nil_ _), Lib.hid (by obtain ⟨m, h⟩ := HWR.out; exact ⟨m + nq, by rw [h, World.drewN_drewN]⟩)⟩
            case measure => simp; omega
          · go_wp2_with fail
            go_quiet ((go_at_call 94; exact Calls.quiet_of_same ((HJ2.out _).mono fun _ _ h => ⟨h.1, h.2.symm⟩)))
            go_wp2_with fail
            go_roundw
            case rel => exact ⟨j + 1, q - k, some ⟨xb, xo + k, none⟩, c' - k, Lib.hid (by have := HQ.out; have := HT.out; omega), Lib.hid (by have := HQ.out; omega), rfl, by rw [sumC, HLL.out, show min (l.length - 8 * j) 8 = k by have := HQ.out; have := HN.out; have := HT.out; omega], by omega, by omega, Lib.hid (by have h := HD1.out; rw [if_neg hct, ← HLL.out, List.drop_drop] at h; rw [bytes_drop8 l n j q k HN.out HQ.out HT.out]; exact h), Lib.hid (by obtain ⟨m, h⟩ := HWR.out; exact ⟨m + nq, by rw [h, World.drewN_drewN]⟩)⟩
            case measure => simp; omega
    · obtain rfl : q = 0 := by omega
      go_wp2_with fail
      go_ret
      refine ⟨?_, (by obtain ⟨m, h⟩ := HWR.out; exact ⟨m, h.symm⟩)⟩
      unfold sumBy
      rw [← HN.out, show (n + 7) / 8 = j by have := HQ.out; have := HJ.out; omega]
      rfl
end Go.Proofs.Ytlgcdcjfobfoiaa
