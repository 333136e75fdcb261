/-
  The contracts of slices.Equal over strings. Conditions: what is read can be read.
-/
import Derived.Test.YtnidcmhfbkdioaaKh
namespace Go.Proofs.Ytnidcmhfbkdioaa
open Go.RowKit
set_option maxRecDepth 100000

theorem take_eq_succT {α : Type} {l l' : List α} {k : Nat} {x y : α} (hx : l[k]? = some x) (hy : l'[k]? = some y) (h : l.take k = l'.take k) (e : x = y) : l.take (k + 1) = l'.take (k + 1) := by
  rw [List.take_add_one, List.take_add_one, hx, hy, h, e]
theorem ne_of_atT {α : Type} {l l' : List α} {k : Nat} {x y : α} (hx : l[k]? = some x) (hy : l'[k]? = some y) (h : x ≠ y) : l ≠ l' := by
  rintro rfl
  rw [hx] at hy
  exact h (Option.some.inj hy)
theorem ret_bT {a b : Bool} (h : a = b) : Ending.returned (.bool a) = Ending.returned (.bool b) := by rw [h]

set_option maxHeartbeats 800000 in
theorem equalSS_any (A A' : Option Addr) (n c n' c' B : Nat) (l l' : List ByteArray) (w : World) (hn : n = l.length) (hn' : n' = l'.length) (hm : n ≤ 9223372036854775807) (hr : Rd w B 1 A n (strV l)) (hr' : Rd w B 1 A' n' (strV l')) :
    Calls Try.prog 93 #[.slice A n c, .slice A' n' c'] w fun e w' => e = .returned (.bool (decide (l = l'))) ∧ ∃ m, w.drewN m = w' := by
  by_cases h0 : n = n'
  · subst h0
    have t0 : ((n : Int) != n) = false := by simp
    have HN := Lib.hid hn
    have HN' := Lib.hid hn'
    have HR := Lib.hid hr
    have HR' := Lib.hid hr'
    clear hn hn' hr hr'
    go_enter Try.func93, Try.ntmps93
    go_wp2_with fail
    go_loopw [13] (fun i wr => ∃ k : Nat, k ≤ n ∧ i = .int .i64 k ∧ l.take k = l'.take k ∧ ∃ m, w.drewN m = wr) (fun i _ => n - (intOf i).toNat)
    case atStart => exact ⟨0, Nat.zero_le _, rfl, rfl, 0, rfl⟩
    case round =>
      obtain ⟨k, hk, rfl, hT, m, rfl⟩ := hrel
      have HT := Lib.hid hT
      clear hT
      by_cases hlt : k < n
      · have e1 := HN.out
        have e2 := HN'.out
        obtain ⟨x, hx'⟩ : ∃ x, l[k]? = some x := ⟨_, List.getElem?_eq_getElem (by omega)⟩
        obtain ⟨y, hy'⟩ : ∃ y, l'[k]? = some y := ⟨_, List.getElem?_eq_getElem (by omega)⟩
        have hx := strV_get hx'
        have hy := strV_get hy'
        obtain ⟨b, o, rfl, _, c0⟩ := HR.out.at1 hlt hx
        obtain ⟨b', o', rfl, _, c1⟩ := HR'.out.at1 hlt hy
        have HX := Lib.hid hx'
        have HY := Lib.hid hy'
        have hk0 : (0 : Int) ≤ k := by omega
        have hkn : (k : Int) < n := by omega
        clear e1 e2 hx hy hx' hy'
        go_wp2_with fail
        go_quiet (fail)
        by_cases hxy : x = y
        · have HXY := Lib.hid hxy
          subst hxy
          go_wp2_with fail
          · rename_i hh
            exact absurd hh (by simp)
          go_roundw
          case measure => simp [intOf]; omega
          case rel => exact ⟨k + 1, by omega, by go_num, take_eq_succT HX.out HY.out HT.out HXY.out, _, rfl⟩
        · have t1 : (x == y) = false := ba_beq_ne hxy
          have t2 : (x.toList == y.toList) = false := ba_tl_ne hxy
          have t3 : (!(x.toList == y.toList)) = true := by simp [t2]
          have t4 : (x != y) = true := by simp [bne, t1]
          have HXY := Lib.hid hxy
          clear hxy
          go_wp2_with fail
          rotate_left
          · rename_i hh
            exact absurd hh (by simp [t2])
          go_ret
          exact ⟨ret_bT (by simp [ne_of_atT HX.out HY.out HXY.out]), _, (World.drewN_drewN _ _ _).symm⟩
      · go_wp2
        go_ret
        obtain rfl : k = n := by omega
        have h1 := HT.out
        rw [List.take_of_length_le (by rw [← HN.out]; omega), List.take_of_length_le (by rw [← HN'.out]; omega)] at h1
        exact ⟨ret_bT (by simp [h1]), _, rfl⟩
  · have t0 : ((n : Int) != n') = true := by simp; omega
    have HE : Hid (l ≠ l') := Lib.hid (by rintro rfl; omega)
    clear hn hn' hr hr' h0
    go_enter Try.func93, Try.ntmps93
    go_wp2_with fail
    go_ret
    exact ⟨ret_bT (by simp [HE.out]), 0, rfl⟩


end Go.Proofs.Ytnidcmhfbkdioaa
