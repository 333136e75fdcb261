/-
  The contracts of slices.Clone and slices.Equal at bytes and at inputs. Conditions: sizes within the reach.
-/
import Derived.Test.YtlgcdcjfobfoiaaPd
namespace Go.Proofs.Ytlgcdcjfobfoiaa
open Go.RowKit
set_option maxRecDepth 100000
theorem T.info24 : (Try.prog.info? 24).map (fun i => (i.zero, i.size, i.bytes)) = some (some (.agg #[.int .i64 0, .int .i64 0, .int .i64 0]), 3, 24) := by kernel_rfl
theorem T.info3 : (Try.prog.info? 3).map (fun i => (i.zero, i.size, i.bytes)) = some (some (.int .i64 0), 1, 8) := by kernel_rfl

set_option maxHeartbeats 800000 in
theorem cloneBytes_any (A : Option Addr) (n c B : Nat) (xs : List Value) (w : World) (hr : Rd w B 1 A n xs) (h1 : ∀ u ∈ xs, u.oneCell' = true) (hB : B ≤ w.heap.size) (hs : n * 1 ≤ 140737488355328) :
    Calls Try.prog 40 #[.slice A n c] w (RetS w 5 1 n xs) := by
  obtain ⟨i0, hi0, hz0, hz1, hz2⟩ := info_parts T.info5
  have hn := fun wx => Lib.run_eql_slice_nil (P := Try.prog) wx 30 5 A n c 0 0 Try.underlying30
  cases A with
  | none =>
    obtain rfl : n = 0 := by
      rcases Nat.eq_zero_or_pos n with h | h
      · exact h
      · obtain ⟨_, _, h, _⟩ := hr.2 h; cases h
    obtain rfl : xs = [] := List.eq_nil_of_length_eq_zero (by simpa using hr.1)
    go_enter Try.func40, Try.ntmps40
    go_wp2_with fail
    go_ret
    exact ⟨none, 0, by simp, World.ownsRow_nil _ _ _ _, Below.refl _ _⟩
  | some a =>
    go_enter Try.func40, Try.ntmps40
    go_wp2_with
      (at_builtin
       go_must (refine wpList_append_rd _ rfl (.tmp 5) (.tmp 6) _ rfl w.heap.size 5 i0 (.int .u8 0) 1 1 Try.underlying30 hi0 hz0 hz1 hz2 rfl (by decide) (.slice (some ⟨w.heap.size, 0, none⟩) 0 0) 0 [] rfl (World.ownsRow_lit w #[] 0 (Nat.le_refl _) (by decide) rfl) B (some a) n c xs rfl (hr.below ((Below.refl B w).alloc hB _)) h1 ?c2 ?c3 ?c4 ?_)
       case c2 => unfold maxLen; omega
       case c3 => omega
       case c4 => simp
       intro A' c' w1 hown1 hg1 hat1)
    go_ret
    simp only [Nat.zero_add, List.nil_append] at hown1
    exact ⟨A', c', by simp, hown1, ((Below.refl _ _).alloc (Nat.le_refl _) _).grown hg1 (by simp) (by simp [Value.ownBlock])⟩

set_option maxHeartbeats 800000 in
theorem cloneInp_any (A : Option Addr) (n c B : Nat) (xs : List Value) (w : World) (hr : Rd w B 3 A n xs) (h1 : ∀ u ∈ xs, u.oneCell' = true) (hB : B ≤ w.heap.size) (hs : n * 24 ≤ 140737488355328) :
    Calls Try.prog 42 #[.slice A n c] w (RetS w 24 3 n xs) := by
  obtain ⟨i0, hi0, hz0, hz1, hz2⟩ := info_parts T.info24
  have hn := fun wx => Lib.run_eql_slice_nil (P := Try.prog) wx 22 24 A n c 0 0 Try.underlying22
  cases A with
  | none =>
    obtain rfl : n = 0 := by
      rcases Nat.eq_zero_or_pos n with h | h
      · exact h
      · obtain ⟨_, _, h, _⟩ := hr.2 h; cases h
    obtain rfl : xs = [] := List.eq_nil_of_length_eq_zero (by simpa using hr.1)
    go_enter Try.func42, Try.ntmps42
    go_wp2_with fail
    go_ret
    exact ⟨none, 0, by simp, World.ownsRow_nil _ _ _ _, Below.refl _ _⟩
  | some a =>
    go_enter Try.func42, Try.ntmps42
    go_wp2_with
      (at_builtin
       go_must (refine wpList_append_rd _ rfl (.tmp 5) (.tmp 6) _ rfl w.heap.size 24 i0 (.agg #[.int .i64 0, .int .i64 0, .int .i64 0]) 3 24 Try.underlying22 hi0 hz0 hz1 hz2 rfl (by decide) (.slice (some ⟨w.heap.size, 0, none⟩) 0 0) 0 [] rfl (World.ownsRow_lit w #[] 0 (Nat.le_refl _) (by decide) rfl) B (some a) n c xs rfl (hr.below ((Below.refl B w).alloc hB _)) h1 ?c2 ?c3 ?c4 ?_)
       case c2 => unfold maxLen; omega
       case c3 => omega
       case c4 => simp
       intro A' c' w1 hown1 hg1 hat1)
    go_ret
    simp only [Nat.zero_add, List.nil_append] at hown1
    exact ⟨A', c', by simp, hown1, ((Below.refl _ _).alloc (Nat.le_refl _) _).grown hg1 (by simp) (by simp [Value.ownBlock])⟩

set_option maxHeartbeats 800000 in
theorem cloneInts_any (A : Option Addr) (n c B : Nat) (xs : List Value) (w : World) (hr : Rd w B 1 A n xs) (h1 : ∀ u ∈ xs, u.oneCell' = true) (hB : B ≤ w.heap.size) (hs : n * 8 ≤ 140737488355328) :
    Calls Try.prog 58 #[.slice A n c] w (RetS w 3 1 n xs) := by
  obtain ⟨i0, hi0, hz0, hz1, hz2⟩ := info_parts T.info3
  have hn := fun wx => Lib.run_eql_slice_nil (P := Try.prog) wx 41 3 A n c 0 0 Try.underlying41
  cases A with
  | none =>
    obtain rfl : n = 0 := by
      rcases Nat.eq_zero_or_pos n with h | h
      · exact h
      · obtain ⟨_, _, h, _⟩ := hr.2 h; cases h
    obtain rfl : xs = [] := List.eq_nil_of_length_eq_zero (by simpa using hr.1)
    go_enter Try.func58, Try.ntmps58
    go_wp2_with fail
    go_ret
    exact ⟨none, 0, by simp, World.ownsRow_nil _ _ _ _, Below.refl _ _⟩
  | some a =>
    go_enter Try.func58, Try.ntmps58
    go_wp2_with
      (at_builtin
       go_must (refine wpList_append_rd _ rfl (.tmp 5) (.tmp 6) _ rfl w.heap.size 3 i0 (.int .i64 0) 1 8 Try.underlying41 hi0 hz0 hz1 hz2 rfl (by decide) (.slice (some ⟨w.heap.size, 0, none⟩) 0 0) 0 [] rfl (World.ownsRow_lit w #[] 0 (Nat.le_refl _) (by decide) rfl) B (some a) n c xs rfl (hr.below ((Below.refl B w).alloc hB _)) h1 ?c2 ?c3 ?c4 ?_)
       case c2 => unfold maxLen; omega
       case c3 => omega
       case c4 => simp
       intro A' c' w1 hown1 hg1 hat1)
    go_ret
    simp only [Nat.zero_add, List.nil_append] at hown1
    exact ⟨A', c', by simp, hown1, ((Below.refl _ _).alloc (Nat.le_refl _) _).grown hg1 (by simp) (by simp [Value.ownBlock])⟩

/-- Two lists agree up to k. -/
theorem take_eq_succ {α : Type} {l l' : List α} {k : Nat} {x y : α} (hx : l[k]? = some x) (hy : l'[k]? = some y) (h : l.take k = l'.take k) (e : x = y) : l.take (k + 1) = l'.take (k + 1) := by
  rw [List.take_add_one, List.take_add_one, hx, hy, h, e]
theorem ne_of_at {α : Type} {l l' : List α} {k : Nat} {x y : α} (hx : l[k]? = some x) (hy : l'[k]? = some y) (e : x ≠ y) : l ≠ l' := by
  rintro rfl; rw [hx] at hy; injection hy with hy; exact e hy

set_option maxHeartbeats 800000 in
theorem equalBytes_any (A A' : Option Addr) (n c n' c' B : Nat) (l l' : List Nat) (w : World) (hn : n = l.length) (hn' : n' = l'.length) (hm : n ≤ 9223372036854775807) (hr : Rd w B 1 A n (bytesV l)) (hr' : Rd w B 1 A' n' (bytesV l')) :
    Calls Try.prog 74 #[.slice A n c, .slice A' n' c'] w fun e w' => e = .returned (.bool (decide (l = l'))) ∧ ∃ m, w.drewN m = w' := by
  by_cases h0 : n = n'
  · subst h0
    have t0 : ((n : Int) != n) = false := by simp
    have HN := Lib.hid hn
    have HN' := Lib.hid hn'
    have HR := Lib.hid hr
    have HR' := Lib.hid hr'
    clear hn hn' hr hr'
    go_enter Try.func74, Try.ntmps74
    go_wp2_with fail
    go_loopw [13] (fun i wr => ∃ k : Nat, k ≤ n ∧ i = .int .i64 k ∧ l.take k = l'.take k ∧ ∃ m, w.drewN m = wr) (fun i _ => n - (intOf i).toNat)
    case atStart => exact ⟨0, Nat.zero_le _, rfl, rfl, 0, rfl⟩
    case round =>
      obtain ⟨k, hk, rfl, hT, m, rfl⟩ := hrel
      have HT := Lib.hid hT
      clear hT
      by_cases hlt : k < n
      · have e1 := HN.out
        have e2 := HN'.out
        have hx := bytesV_get l k (by omega)
        have hy := bytesV_get l' k (by omega)
        have hx' : l[k]? = some (l.getD k 0) := by simp [List.getD, List.getElem?_eq_getElem (show k < l.length by omega)]
        have hy' : l'[k]? = some (l'.getD k 0) := by simp [List.getD, List.getElem?_eq_getElem (show k < l'.length by omega)]
        generalize l.getD k 0 = x at hx hx'
        generalize l'.getD k 0 = y at hy hy'
        obtain ⟨b, o, rfl, _, c0⟩ := HR.out.at1 hlt hx
        obtain ⟨b', o', rfl, _, c1⟩ := HR'.out.at1 hlt hy
        have HX := Lib.hid hx'
        have HY := Lib.hid hy'
        have hk0 : (0 : Int) ≤ k := by omega
        have hkn : (k : Int) < n := by omega
        clear e1 e2 hx hy hx' hy'
        go_wp2_with fail
        go_quiet (fail)
        by_cases hxy : x = y
        · have t1 : ((x : Int) != y) = false := by simp [hxy]
          have HXY := Lib.hid hxy
          clear hxy
          go_wp2_with fail
          go_roundw
          case measure => simp [intOf]; omega
          case rel => exact ⟨k + 1, by omega, by go_num, take_eq_succ HX.out HY.out HT.out HXY.out, _, rfl⟩
        · have t1 : ((x : Int) != y) = true := by simp; omega
          have HXY := Lib.hid hxy
          clear hxy
          go_wp2_with fail
          go_ret
          exact ⟨ret_b (by simp [ne_of_at HX.out HY.out HXY.out]), _, (World.drewN_drewN _ _ _).symm⟩
      · go_wp2
        go_ret
        obtain rfl : k = n := by omega
        have h1 := HT.out
        rw [List.take_of_length_le (by rw [← HN.out]; omega), List.take_of_length_le (by rw [← HN'.out]; omega)] at h1
        exact ⟨ret_b (by simp [h1]), _, rfl⟩
  · have t0 : ((n : Int) != n') = true := by simp; omega
    have HE : Hid (l ≠ l') := Lib.hid (by rintro rfl; omega)
    clear hn hn' hr hr' h0
    go_enter Try.func74, Try.ntmps74
    go_wp2_with fail
    go_ret
    exact ⟨ret_b (by simp [HE.out]), 0, rfl⟩

theorem inp_neq (i j : Inp) (w : World) : (binOp .neq 24 (.agg #[.int .i64 i.k, .int .i64 i.x, .int .i64 i.y]) (.agg #[.int .i64 j.k, .int .i64 j.x, .int .i64 j.y])).run Try.prog w = .ok (.bool (!decide (i = j))) w := by
  obtain ⟨a, b, c⟩ := i
  obtain ⟨d, e, f⟩ := j
  go_simp
  repeat' (split <;> simp_all)

set_option maxHeartbeats 800000 in
theorem equalInp_any (A A' : Option Addr) (n c n' c' B : Nat) (l l' : List Inp) (w : World) (hn : n = l.length) (hn' : n' = l'.length) (hm : n ≤ 9223372036854775807) (hr : Rd w B 3 A n (inCs l)) (hr' : Rd w B 3 A' n' (inCs l')) :
    Calls Try.prog 39 #[.slice A n c, .slice A' n' c'] w fun e w' => e = .returned (.bool (decide (l = l'))) ∧ ∃ m, w.drewN m = w' := by
  by_cases h0 : n = n'
  · subst h0
    have t0 : ((n : Int) != n) = false := by simp
    have HN := Lib.hid hn
    have HN' := Lib.hid hn'
    have HR := Lib.hid hr
    have HR' := Lib.hid hr'
    clear hn hn' hr hr'
    go_enter Try.func39, Try.ntmps39
    go_wp2_with fail
    go_loopw [13] (fun i wr => ∃ k : Nat, k ≤ n ∧ i = .int .i64 k ∧ l.take k = l'.take k ∧ ∃ m, w.drewN m = wr) (fun i _ => n - (intOf i).toNat)
    case atStart => exact ⟨0, Nat.zero_le _, rfl, rfl, 0, rfl⟩
    case round =>
      obtain ⟨k, hk, rfl, hT, m, rfl⟩ := hrel
      have HT := Lib.hid hT
      clear hT
      by_cases hlt : k < n
      · obtain ⟨b, o, x, rfl, _, hx, x0, x1, x2⟩ := HR.out.inp HN.out hlt (Below.refl B w) (Nat.le_refl _)
        obtain ⟨b', o', y, rfl, _, hy, y0, y1, y2⟩ := HR'.out.inp HN'.out hlt (Below.refl B w) (Nat.le_refl _)
        have HX := Lib.hid hx
        have HY := Lib.hid hy
        have hk0 : (0 : Int) ≤ k := by omega
        have hkn : (k : Int) < n := by omega
        have heq := inp_neq x y
        clear hx hy
        by_cases hxy : x = y
        · have heq' : ∀ w, (binOp .neq 24 (.agg #[.int .i64 x.k, .int .i64 x.x, .int .i64 x.y]) (.agg #[.int .i64 y.k, .int .i64 y.x, .int .i64 y.y])).run Try.prog w = .ok (.bool false) w := by simpa [hxy] using heq
          have HXY := Lib.hid hxy
          clear hxy heq
          go_wp2_with fail
          go_quiet (fail)
          go_wp2_with fail
          go_roundw
          case measure => simp [intOf]; omega
          case rel => exact ⟨k + 1, by omega, by go_num, take_eq_succ HX.out HY.out HT.out HXY.out, _, rfl⟩
        · have heq' : ∀ w, (binOp .neq 24 (.agg #[.int .i64 x.k, .int .i64 x.x, .int .i64 x.y]) (.agg #[.int .i64 y.k, .int .i64 y.x, .int .i64 y.y])).run Try.prog w = .ok (.bool true) w := by simpa [hxy] using heq
          have HXY := Lib.hid hxy
          clear hxy heq
          go_wp2_with fail
          go_quiet (fail)
          go_wp2_with fail
          go_ret
          exact ⟨ret_b (by simp [ne_of_at HX.out HY.out HXY.out]), _, (World.drewN_drewN _ _ _).symm⟩
      · go_wp2
        go_ret
        obtain rfl : k = n := by omega
        have h1 := HT.out
        rw [List.take_of_length_le (by rw [← HN.out]; omega), List.take_of_length_le (by rw [← HN'.out]; omega)] at h1
        exact ⟨ret_b (by simp [h1]), _, rfl⟩
  · have t0 : ((n : Int) != n') = true := by simp; omega
    have HE : Hid (l ≠ l') := Lib.hid (by rintro rfl; omega)
    clear hn hn' hr hr' h0
    go_enter Try.func39, Try.ntmps39
    go_wp2_with fail
    go_ret
    exact ⟨ret_b (by simp [HE.out]), 0, rfl⟩
end Go.Proofs.Ytlgcdcjfobfoiaa
