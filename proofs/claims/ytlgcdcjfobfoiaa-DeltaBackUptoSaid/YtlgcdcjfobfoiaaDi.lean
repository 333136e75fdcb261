/-
  The contracts of slices.Equal over integers and of differs. Conditions: what is read can be read.
-/
import Derived.Test.YtlgcdcjfobfoiaaDj
import Derived.Test.YtlgcdcjfobfoiaaMk
namespace Go.Proofs.Ytlgcdcjfobfoiaa
open Go.RowKit
set_option maxRecDepth 100000

theorem intsV_get (l : List Int) (k : Nat) (h : k < l.length) : (l.map (Value.int .i64))[k]? = some (.int .i64 (l.getD k 0)) := by
  simp [List.getD, List.getElem?_eq_getElem h]

set_option maxHeartbeats 800000 in
theorem equalInts_any (A A' : Option Addr) (n c n' c' B : Nat) (l l' : List Int) (w : World) (hn : n = l.length) (hn' : n' = l'.length) (hm : n ≤ 9223372036854775807) (hr : Rd w B 1 A n (l.map (Value.int .i64))) (hr' : Rd w B 1 A' n' (l'.map (Value.int .i64))) :
    Calls Try.prog 61 #[.slice A n c, .slice A' n' c'] w fun e w' => e = .returned (.bool (decide (l = l'))) ∧ ∃ m, w.drewN m = w' := by
  by_cases h0 : n = n'
  · subst h0
    have t0 : ((n : Int) != n) = false := by simp
    have HN := Lib.hid hn
    have HN' := Lib.hid hn'
    have HR := Lib.hid hr
    have HR' := Lib.hid hr'
    clear hn hn' hr hr'
    go_enter Try.func61, Try.ntmps61
    go_wp2_with fail
    go_loopw [13] (fun i wr => ∃ k : Nat, k ≤ n ∧ i = .int .i64 k ∧ l.take k = l'.take k ∧ ∃ m, w.drewN m = wr) (fun i _ => n - (intOf i).toNat)
    case atStart => exact ⟨0, Nat.zero_le _, rfl, rfl, 0, rfl⟩
    case round =>
      obtain ⟨k, hk, rfl, hT, m, rfl⟩ := hrel
      have HT := Lib.hid hT
      clear hT
      by_cases hlt : k < n
      · have e1 := HN.out
        have e2 := HN'.out
        have hx := intsV_get l k (by omega)
        have hy := intsV_get l' k (by omega)
        have hx' : l[k]? = some (l.getD k 0) := by simp [List.getD, List.getElem?_eq_getElem (show k < l.length by omega)]
        have hy' : l'[k]? = some (l'.getD k 0) := by simp [List.getD, List.getElem?_eq_getElem (show k < l'.length by omega)]
        generalize l.getD k 0 = x at hx hx'
        generalize l'.getD k 0 = y at hy hy'
        obtain ⟨b, o, rfl, _, c0⟩ := HR.out.at1 hlt hx
        obtain ⟨b', o', rfl, _, c1⟩ := HR'.out.at1 hlt hy
        have HX := Lib.hid hx'
        have HY := Lib.hid hy'
        have hk0 : (0 : Int) ≤ k := by omega
        have hkn : (k : Int) < n := by omega
        clear e1 e2 hx hy hx' hy'
        go_wp2_with fail
        go_quiet (fail)
        by_cases hxy : x = y
        · have t1 : (x != y) = false := by simp [hxy]
          have HXY := Lib.hid hxy
          clear hxy
          go_wp2_with fail
          go_roundw
          case measure => simp [intOf]; omega
          case rel => exact ⟨k + 1, by omega, by go_num, take_eq_succ HX.out HY.out HT.out HXY.out, _, rfl⟩
        · have t1 : (x != y) = true := by simp; omega
          have HXY := Lib.hid hxy
          clear hxy
          go_wp2_with fail
          go_ret
          exact ⟨ret_b (by simp [ne_of_at HX.out HY.out HXY.out]), _, (World.drewN_drewN _ _ _).symm⟩
      · go_wp2
        go_ret
        obtain rfl : k = n := by omega
        have h1 := HT.out
        rw [List.take_of_length_le (by rw [← HN.out]; omega), List.take_of_length_le (by rw [← HN'.out]; omega)] at h1
        exact ⟨ret_b (by simp [h1]), _, rfl⟩
  · have t0 : ((n : Int) != n') = true := by simp; omega
    have HE : Hid (l ≠ l') := Lib.hid (by rintro rfl; omega)
    clear hn hn' hr hr' h0
    go_enter Try.func61, Try.ntmps61
    go_wp2_with fail
    go_ret
    exact ⟨ret_b (by simp [HE.out]), 0, rfl⟩


theorem differs_len : encOk [1] [1, 5] ∧ (packB (encB [1] [1, 5])).length = 18 := by
  have h1 : (encB [1] [1, 5]).length = 143 := by
    have g2 : grp 2 = 1 := by decide
    have g1 : grp 1 = 1 := by decide
    have hz : zig (wrap64 (5 - bse [1] 1)) = 10 := by decide +kernel
    have g10 : grp 10 = 1 := by decide
    rw [encB_R, encH, encR, if_pos (by decide), encR, if_neg (by decide), hz, encR, if_neg (by decide)]
    simp only [List.length_append, bitsOf_length, natB_length, List.length_cons, List.length_nil]
    rw [g1, g10]
    simp [g2]
  exact ⟨⟨by simp, by simp, by omega⟩, by rw [packB_length]; omega⟩

theorem differs_ints (w : World) : Calls Try.prog 55 #[.slice (some ⟨w.heap.size, 0, none⟩) 1 1, .slice (some ⟨w.heap.size + 1, 0, none⟩) 2 2] ((w.alloc (.cells #[.int .i64 1] 3)).alloc (.cells #[.int .i64 1, .int .i64 5] 3)) fun e w' => (∃ A c, e = .returned (.tuple #[.slice A 18 c, .int .i64 0])) ∧ Below w.heap.size w w' := by
  have hsz1 : (w.alloc (.cells #[.int .i64 1] 3)).heap.size = w.heap.size + 1 := by simp
  have hb1 := (Below.refl w.heap.size w).alloc (Nat.le_refl _) (.cells #[.int .i64 1] 3)
  have hb2 := hb1.alloc hb1.size (.cells #[.int .i64 1, .int .i64 5] 3)
  have hr1 : Rd (w.alloc (.cells #[.int .i64 1] 3)) (w.heap.size + 1) 1 (some ⟨w.heap.size, 0, none⟩) 1 (List.map (Value.int .i64) [1]) := Rd.new w 3 1 1 #[.int .i64 1] rfl
  have hn2 := hb1.size
  generalize w.alloc (.cells #[.int .i64 1] 3) = w1 at *
  have hsz2 : (w1.alloc (.cells #[.int .i64 1, .int .i64 5] 3)).heap.size = w.heap.size + 2 := by simp [hsz1]
  have hr2 : Rd (w1.alloc (.cells #[.int .i64 1, .int .i64 5] 3)) (w1.heap.size + 1) 1 (some ⟨w1.heap.size, 0, none⟩) 2 (List.map (Value.int .i64) [1, 5]) := Rd.new w1 3 2 1 #[.int .i64 1, .int .i64 5] rfl
  have hr1' := hr1.below ((Below.refl (w.heap.size + 1) w1).alloc (by omega) (.cells #[.int .i64 1, .int .i64 5] 3))
  rw [hsz1] at hr2
  generalize w1.alloc (.cells #[.int .i64 1, .int .i64 5] 3) = w2 at *
  refine (ints_any _ _ 1 1 2 2 (w.heap.size + 2) [1] [1, 5] w2 (hr1'.more (by omega)) hr2 rfl rfl (by omega) (by intro x hx; simp at hx; omega) (by intro x hx; simp at hx; omega) (by omega)).mono ?_
  rintro e w3 (⟨_, A1, c1, rfl, ho1, hb3⟩ | ⟨hno, _⟩)
  · rw [differs_len.2]
    exact ⟨⟨_, _, rfl⟩, hb2.trans (hb3.mono (by omega))⟩
  · exact absurd differs_len.1 hno

set_option maxHeartbeats 800000 in
theorem differs_any (w : World) : Calls Try.prog 59 #[] w fun e w' => e = .returned (.bool true) ∧ Below w.heap.size w w' := by
  have HI := Lib.hid (differs_ints w)
  go_enter Try.func59, Try.ntmps59
  go_wp2_with fail
  refine HI.out.mono ?_
  rintro e w1 ⟨⟨A1, c1, rfl⟩, hbb⟩
  go_wp2_with fail
  go_ret
  exact ⟨rfl, hbb⟩
end Go.Proofs.Ytlgcdcjfobfoiaa
