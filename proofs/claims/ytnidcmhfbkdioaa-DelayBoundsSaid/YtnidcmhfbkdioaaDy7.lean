/-
  The contract of tourmake.Below; the walk of the law DelayBounds. Conditions: numbers that fit their kinds; the notes can be read.
-/
import Derived.Test.YtnidcmhfbkdioaaDy6
namespace Go.Proofs.Ytnidcmhfbkdioaa
open Go.RowKit
set_option maxRecDepth 100000

theorem tmod_emod (x n : Int) (hn : 0 < n) : (x.tmod n < 0 → x.tmod n + n = x % n) ∧ (0 ≤ x.tmod n → x.tmod n = x % n) ∧ -n < x.tmod n ∧ x.tmod n < n := by
  have h1 := @Int.tmod_eq_emod x n
  have hd : ∀ (p : Prop) [Decidable p] (a b : Nat), ((if p then a else b : Nat) : Int) = if p then (a : Int) else b := fun p _ a b => by split <;> rfl
  rw [hd] at h1
  have h2 : n.natAbs = n := by omega
  have h3 := Int.emod_nonneg x (show n ≠ 0 by omega)
  have h4 := Int.emod_lt_of_pos x hn
  split at h1
  · refine ⟨fun h => ?_, fun h => ?_, ?_, ?_⟩ <;> omega
  · refine ⟨fun h => ?_, fun h => ?_, ?_, ?_⟩ <;> omega

set_option maxHeartbeats 800000 in
theorem below_any (x n : Int) (w : World) (h1 : 1 ≤ n) (h2 : n ≤ 9223372036854775807) :
    Calls Try.prog 24 #[.int .i64 x, .int .i64 n] w fun e w' => e = .returned (.int .i64 (x % n)) ∧ w = w' := by
  obtain ⟨m1, m2, m3, m4⟩ := tmod_emod x n (by omega)
  have M1 := Lib.hid m1
  have M2 := Lib.hid m2
  generalize hT : x.tmod n = T at *
  have HE : Hid (x % n = x % n) := Lib.hid rfl
  generalize x % n = E at *
  clear m1 m2 HE
  have hnz : (n == 0) = false := by simp; omega
  by_cases hT0 : T < 0
  · go_enter Try.func24, Try.ntmps24
    go_wp2_with fail
    go_ret
    exact ⟨ret_i (M1.out hT0), rfl⟩
  · go_enter Try.func24, Try.ntmps24
    go_wp2_with fail
    go_ret
    exact ⟨ret_i (M2.out (by omega)), rfl⟩

set_option maxHeartbeats 4000000 in
theorem delayBounds_walk (low high : Int) (A : Option Addr) (n c : Nat) (zs : List Int) (w : World) (hr : Rd w w.heap.size 1 A n (zs.map (Value.int .i64))) (hn : n = zs.length) (hnc : n ≤ c) (hc : c ≤ 9223372036854775807) (hz : ∀ z ∈ zs, (Lit.int .i64 z).wf = true) (hre : n * 8 ≤ 140737488351232) :
    Calls Try.prog 10 #[.int .i64 low, .int .i64 high, .slice A n c] w fun e w' => e = .returned (.bool true) ∧ Below w.heap.size w w' := by
  have HNEW := Lib.hid new_any
  have HR := Lib.hid hr
  have HZ := Lib.hid hz
  have HN := Lib.hid hn
  have HBL := Lib.hid (fun x w => below_any x 21 w (by omega) (by omega))
  have a0 := Int.emod_nonneg low (show (21 : Int) ≠ 0 by omega)
  have a1 := Int.emod_lt_of_pos low (show (0 : Int) < 21 by omega)
  have b0 := Int.emod_nonneg high (show (21 : Int) ≠ 0 by omega)
  have b1 := Int.emod_lt_of_pos high (show (0 : Int) < 21 by omega)
  obtain ⟨a, ha⟩ : ∃ a, a = low % 21 := ⟨_, rfl⟩
  obtain ⟨b, hb⟩ : ∃ b, b = high % 21 := ⟨_, rfl⟩
  rw [← ha] at a0 a1
  rw [← hb] at b0 b1
  have HBA := Lib.hid (fun w => HBL.out low w)
  have HBB := Lib.hid (fun w => HBL.out high w)
  rw [← ha] at HBA
  rw [← hb] at HBB
  clear hr hz hn ha hb HBL
  go_enter Try.func10, Try.ntmps10
  go_wp2_with fail
  refine (HBA.out w).mono ?_
  rintro e w1 ⟨rfl, rfl⟩
  go_wp2_with fail
  refine (HBB.out w).mono ?_
  rintro e w1 ⟨rfl, rfl⟩
  go_wp2_with fail
  obtain ⟨lo, hlo⟩ : ∃ lo, lo = min a b := ⟨_, rfl⟩
  obtain ⟨hi, hhi⟩ : ∃ hi, hi = max a b := ⟨_, rfl⟩
  refine (HNEW.out (min a b) (max a b) w).mono ?_
  rw [← hlo, ← hhi]
  have hl0 : 0 ≤ lo := by omega
  have hl1 : lo ≤ hi := by omega
  have hl2 : hi ≤ 20 := by omega
  have hlo2 : min a b = lo := hlo.symm
  have hhi2 : max a b = hi := hhi.symm
  clear hlo hhi
  rintro e w1 (⟨hbad, _, _⟩ | ⟨-, rfl, hd, hb1⟩)
  · omega
  have HD := Lib.hid hd
  have HVA := Lib.hid (value_any hd)
  have HB1 := Lib.hid hb1
  clear hd hb1 HBA HBB
  go_wp2_with fail
  refine HVA.out.mono ?_
  rintro e w2 ⟨rfl, rfl⟩
  go_wp2_with fail
  clear HVA
  go_loopw [11, 47] (fun fv iv wr => ∃ (k fl cm : Nat) (nw : Int) (last : List Int) (F : List Nat), k ≤ n ∧ iv = .int .i64 k ∧ fv = .int .i64 fl ∧ fl + cm ≤ k ∧ lo ≤ nw ∧ nw ≤ hi ∧ last.length ≤ 9 ∧ Hid (DlSt wr w.heap.size F w.heap.size lo hi nw last cm) ∧ Hid (Below w.heap.size w wr)) (fun _ iv _ => n - (intOf iv).toNat)
  case atStart => exact ⟨0, 0, 0, lo, [], _, Nat.zero_le _, rfl, rfl, by omega, by omega, by omega, by simp, HD, HB1⟩
  case round =>
    clear HD HB1
    obtain ⟨k, fl, cm, nw, last, F, hk, rfl, rfl, hfc, hw1, hw2, h9, HDL, HBL⟩ := hrel
    by_cases hlt : k < n
    · obtain ⟨x, hx⟩ : ∃ x, zs[k]? = some x := ⟨_, List.getElem?_eq_getElem (by have := HN.out; omega)⟩
      have hrd := HR.out.below HBL.out
      obtain ⟨bb, o, rfl, hbb, hcx⟩ := hrd.at1 hlt (u := .int .i64 x) (by rw [List.getElem?_map, hx]; rfl)
      have hxr := bounds_i64 (HZ.out x (List.mem_of_getElem? hx))
      have hkn : (k : Int) < n := by omega
      obtain ⟨R, hR⟩ : ∃ R, R = noteF lo hi nw last cm x := ⟨_, rfl⟩
      have hno := note_any x HDL.out h9 (by omega) hl0 hw1 hw2 hl2 HBL.out.size
      rw [← hR] at hno
      have hRb := note_bd (last := last) (calm := cm) x hw1 hw2
      have hR9 := note_last (low := lo) (high := hi) (now := nw) (calm := cm) x h9
      have hRc := note_calm lo hi nw last cm x
      rw [← hR] at hRb hR9 hRc
      obtain ⟨hRb1, hRb2⟩ := hRb
      have HNO := Lib.hid hno
      have HV0 := Lib.hid (value_any HDL.out)
      have HRR := Lib.hid hR
      clear hno hR hrd hx
      go_wp2_with fail
      refine HV0.out.mono ?_
      rintro e w3 ⟨rfl, rfl⟩
      go_wp2_with fail
      refine HNO.out.mono ?_
      rintro e w5 ⟨F5, rfl, hd5, hs5, hq5⟩
      have HV5 := Lib.hid (value_any hd5)
      have HD5 := Lib.hid hd5
      have HB5 := Lib.hid (HBL.out.trans (hq5.below (fun k hk => (HDL.out.lo k hk).1) HBL.out.size))
      clear hd5 hs5 hq5 HDL HBL HNO HV0
      go_wp2_with fail
      refine HV5.out.mono ?_
      rintro e w6 ⟨rfl, rfl⟩
      clear HV5
      obtain ⟨n5, l5, c5⟩ := R
      dsimp only at hRb1 hRb2 hR9 hRc HD5 HRR
      by_cases hp : 0 < x
      · have h1 : n5 = min (nw + min x 20) hi := by have := note_rise (low := lo) (high := hi) (now := nw) (last := last) (calm := cm) hp; rw [← HRR.out] at this; exact this
        clear HRR
        obtain ⟨m, hm⟩ : ∃ m, m = min x 20 := ⟨_, rfl⟩
        have hm2 : min x 20 = m := hm.symm
        have hm3 : 0 ≤ m := by omega
        have hm4 : m ≤ 20 := by omega
        have h2 : min (nw + m) hi = n5 := by rw [hm]; exact h1.symm
        clear h1 hm
        go_wp2_with fail
        go_roundw
        case rel => exact ⟨k + 1, fl, c5, n5, l5, F5, by omega, by go_num, rfl, by omega, hRb1, hRb2, hR9, HD5, HB5⟩
        case measure => simp [intOf]; omega
      · obtain ⟨h1, h2⟩ : n5 ≤ nw ∧ nw - 1 ≤ n5 := by have := note_fall (low := lo) (high := hi) (now := nw) (last := last) (calm := cm) hp hw1; rw [← HRR.out] at this; exact this
        by_cases hf : n5 < nw
        · obtain ⟨h3, h4⟩ : 8 ≤ cm + 1 ∧ c5 = 0 := by have := note_fell (low := lo) (high := hi) (now := nw) (last := last) (calm := cm) (late := x) hp (by rw [← HRR.out]; exact hf); rw [← HRR.out] at this; exact this
          subst h4
          clear HRR
          go_wp2_with fail
          go_roundw
          case rel => exact ⟨k + 1, k + 1, 0, n5, l5, F5, by omega, by go_num, by go_num, by omega, hRb1, hRb2, hR9, HD5, HB5⟩
          case measure => simp [intOf]; omega
        · clear HRR
          go_wp2_with fail
          go_roundw
          case rel => exact ⟨k + 1, fl, c5, n5, l5, F5, by omega, by go_num, rfl, by omega, hRb1, hRb2, hR9, HD5, HB5⟩
          case measure => simp [intOf]; omega
    · obtain rfl : k = n := by omega
      clear HDL
      go_wp2_with fail
      refine (HNEW.out 1 5 _).mono ?_
      rintro e w2 (⟨hbad2, _⟩ | ⟨-, rfl, hf, hb2⟩)
      · exact absurd hbad2 (by omega)
      have hno := note_any 2 hf (by simp) (by omega) (by omega) (by omega) (by omega) (by omega) hb2.size
      rw [fact_note] at hno
      have HNO := Lib.hid hno
      clear hno hf
      go_wp2_with fail
      refine HNO.out.mono ?_
      rintro e w3 ⟨F', rfl, hf3, hs3, hq3⟩
      have hb3 : Below w.heap.size w w3 := HBL.out.trans ((hb2.trans (hq3.below (fun k hk => by simp at hk; omega) hb2.size)).mono HBL.out.size)
      have hva := value_any hf3
      have HVA := Lib.hid hva
      clear hva hf3 hs3 hq3 hb2
      go_wp2_with fail
      refine HVA.out.mono ?_
      rintro e w4 ⟨rfl, rfl⟩
      go_wp2_with fail
      go_ret
      exact ⟨rfl, hb3⟩
end Go.Proofs.Ytnidcmhfbkdioaa
