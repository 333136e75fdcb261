/-
  The contracts of the reference's big, of bytes.Clone, slices.Grow and slices.Concat at bytes. Conditions: sizes within the reach, slices that can be read.
-/
import Derived.Test.YtlgcdcjfobfoiaaLk2
import Derived.Test.YtlgcdcjfobfoiaaNt9
namespace Go.Proofs.Ytlgcdcjfobfoiaa
open Go.RowKit
set_option maxRecDepth 100000

def bigA (s size k : Nat) : Array Value := (bytesV (List.replicate (size - k) 0 ++ bigB s k)).toArray
theorem bigA_zero (size s : Nat) : ((madeCells (Value.int .u8 0).cells (size * 1)).toList).toArray = bigA s size 0 := by
  apply Array.ext'
  simp only [madeCells, bigA, bigB, List.append_nil, Nat.sub_zero]
  rw [Nat.mul_one]
  apply List.ext_getElem?
  intro j
  by_cases hj : j < size
  · simp [hj, Value.cells, Nat.mod_one, bytesV]
  · simp [hj, bytesV]
theorem bigA_set (s j k : Nat) : (bigA s (j + 1 + k) k).setIfInBounds j (.int .u8 ((s / 256 ^ k % 256 : Nat) : Int)) = bigA s (j + 1 + k) (k + 1) := by
  apply Array.ext'
  simp only [bigA, List.setIfInBounds_toArray, bigB]
  rw [show j + 1 + k - k = j + 1 by omega, show j + 1 + k - (k + 1) = j by omega, List.replicate_succ', bytesV_append, bytesV_append, bytesV_append]
  rw [List.append_assoc, List.set_append_right _ _ (by simp [bytesV])]
  simp [bytesV]

/-- A slice of n elements that can be read, in new memory. -/
def RetT (w0 : World) (t : TypeId) (size n : Nat) (xs : List Value) (e : Ending) (w' : World) : Prop :=
  ∃ A c, e = .returned (.slice A n c) ∧ n ≤ c ∧ c ≤ 9223372036854775807 ∧ Tr w' t size A n xs ∧ Below w0.heap.size w0 w'

set_option maxHeartbeats 800000 in
theorem big_any (s size : Nat) (w : World) (hs : s < 18446744073709551616) (hz : size ≤ 1000) :
    Calls Try.prog 78 #[.int .u64 s, .int .i64 size] w (RetT w 5 1 size (bytesV (bigB s size))) := by
  obtain ⟨i0, hi0, hz0, hz1, hz2⟩ := info_parts T.info5
  go_enter Try.func78, Try.ntmps78
  go_wp2_with
    (at_make
     go_must (refine wpList_make_full _ rfl _ _ 30 rfl w.heap.size 5 i0 (.int .u8 0) 1 Try.underlying30 hi0 hz0 hz1 .i64 .i64 _ _ size rfl rfl rfl rfl (by rw [hz2]; omega) (by unfold maxLen; omega) (Nat.le_refl _) ?_)
     intro w3 hown3 hg3
     obtain ⟨hgc, hbk3⟩ := own_full hown3
     rw [bigA_zero size s] at hbk3
     have hb3 := (Below.refl w.heap.size w).grown hg3 (Nat.le_refl _) (fun q hq => by cases hq)
     clear hown3)
  clear hg3
  generalize hgw : w.heap.size = gc at *
  have HGW := Lib.hid hgw
  clear hgw
  go_loopw [0, 6] (fun v i wr => ∃ j k N : Nat, size = j + k ∧ i = .int .i64 ((j : Int) - 1) ∧ v = .int .u64 N ∧ N < 18446744073709551616 ∧ Hid (N = s / 256 ^ k) ∧ Bk wr gc 5 (bigA s size k) ∧ Below gc w wr) (fun _ i _ => (intOf i + 1).toNat)
  case atStart => exact ⟨size, 0, s, rfl, rfl, rfl, hs, Lib.hid (by simp), hbk3, hb3⟩
  case round =>
    obtain ⟨j, k, N, hjk, hi, rfl, hN, HN, hbk, hb⟩ := hrel
    clear hbk3 hb3
    cases j with
    | succ j =>
      rw [show (((j + 1 : Nat) : Int) - 1) = (j : Int) by omega] at hi
      subst hi
      have hc : ∃ u, wr.cell? ⟨gc, j, none⟩ = some u := by
        have h1 := hbk.cell j
        have h2 : j < (bigA s size k).size := by
          simp only [bigA, List.size_toArray, bytesV_length, List.length_append, List.length_replicate, bigB_length]; omega
        exact ⟨_, h1.trans (Array.getElem?_eq_getElem h2)⟩
      obtain ⟨u, hc⟩ := hc
      have hf := hbk.frozen j
      have hset := hbk.set_ j (.int .u8 ((s / 256 ^ k % 256 : Nat) : Int))
      rw [hjk, bigA_set s j k, ← hjk, ← HN.out] at hset
      have hb2 := hb.setCell (p := ⟨gc, j, none⟩) (Nat.le_refl _) (.int .u8 ((N % 256 : Nat) : Int))
      have HS := Lib.hid hset
      have hjs : (j : Int) < size := by omega
      have HJK := Lib.hid hjk
      clear hset hbk hjk
      go_wp2_with fail
      go_roundw
      case rel => exact ⟨j, k + 1, N / 256, by have := HJK.out; omega, by go_num, by go_num, by omega, Lib.hid (by rw [HN.out, Nat.div_div_eq_div_mul, Nat.pow_succ]), HS.out, hb2⟩
      case measure => simp [intOf]
    | zero =>
      subst hi
      obtain rfl : size = k := by omega
      have hneg : ¬ (0 : Int) ≤ ((0 : Nat) : Int) - 1 := by omega
      have HJK := Lib.hid hjk
      clear hjk
      go_wp2_with fail
      go_ret
      refine ⟨some ⟨gc, 0, none⟩, size, rfl, Nat.le_refl _, by omega, ⟨by simp [bytesV_length, bigB_length], fun _ => ⟨gc, 0, _, rfl, hbk, fun j u hu => ?_⟩⟩, by rw [HGW.out]; exact hb⟩
      rw [Nat.zero_add]
      simp only [bigA, Nat.sub_self, List.replicate_zero, List.nil_append]
      simpa using hu
set_option maxHeartbeats 800000 in
theorem bclone_any (A : Option Addr) (n c B : Nat) (xs : List Value) (w : World) (hr : Rd w B 1 A n xs) (h1 : ∀ u ∈ xs, u.oneCell' = true) (hB : B ≤ w.heap.size) (hs : n * 1 ≤ 140737488355328) :
    Calls Try.prog 69 #[.slice A n c] w (RetS w 5 1 n xs) := by
  obtain ⟨i0, hi0, hz0, hz1, hz2⟩ := info_parts T.info5
  have hn := fun wx => Lib.run_eql_slice_nil (P := Try.prog) wx 30 5 A n c 0 0 Try.underlying30
  cases A with
  | none =>
    obtain rfl : n = 0 := by
      rcases Nat.eq_zero_or_pos n with h | h
      · exact h
      · obtain ⟨_, _, h, _⟩ := hr.2 h; cases h
    obtain rfl : xs = [] := List.eq_nil_of_length_eq_zero (by simpa using hr.1)
    go_enter Try.func69, Try.ntmps69
    go_wp2_with fail
    go_ret
    exact ⟨none, 0, by simp, World.ownsRow_nil _ _ _ _, Below.refl _ _⟩
  | some a =>
    go_enter Try.func69, Try.ntmps69
    go_wp2_with
      (at_builtin
       go_must (refine wpList_append_rd _ rfl (.tmp 5) (.tmp 6) _ rfl w.heap.size 5 i0 (.int .u8 0) 1 1 Try.underlying30 hi0 hz0 hz1 hz2 rfl (by decide) (.slice (some ⟨w.heap.size, 0, none⟩) 0 0) 0 [] rfl (World.ownsRow_lit w #[] 0 (Nat.le_refl _) (by decide) rfl) B (some a) n c xs rfl (hr.below ((Below.refl B w).alloc hB _)) h1 ?c2 ?c3 ?c4 ?_)
       case c2 => unfold maxLen; omega
       case c3 => omega
       case c4 => simp
       intro A' c' w1 hown1 hg1 hat1)
    go_ret
    simp only [Nat.zero_add, List.nil_append] at hown1
    exact ⟨A', c', by simp, hown1, ((Below.refl _ _).alloc (Nat.le_refl _) _).grown hg1 (by simp) (by simp [Value.ownBlock])⟩

/-- An append whose run is known. -/
theorem wpList_append_run {P : Program} {w : World} {ops : Array Oper} {rest : List Oper} {o : Oper} {a : Act} {Q : Exit → Act → World → Prop} (hgd : o.guard = none) (s x : Operand) (t t2 : TypeId)
    (ho : o.op = .call { callee := .builtin .append, args := #[s, x], argTypes := #[t, t2] }) (v : Value) (w' : World)
    (hrun : (Builtin.append_ #[t, t2] o.type #[a.eval s, a.eval x]).run P w = .ok v w')
    (h : wpList P ops Q rest (a.put o.dst v) w') : wpList P ops Q (o :: rest) a w := by
  refine wpList_plain hgd fun K hK => ?_
  unfold Oper.wp execOp
  simp only [ho, resolve, invoke, builtin, Sem.run_bind, Sem.run_pure, Result.andThen_ok, List.map_toArray, List.map_cons, List.map_nil, hrun]
  exact hK _ _ h

/-- slices.Grow of nil: a new row that nobody has written. -/
theorem grow_nil (n : Nat) (w : World) (h0 : 0 < n) (hn : n ≤ 140737488355328) :
    Calls Try.prog 95 #[.slice none 0 0, .int .i64 n] w fun e w' => e = .returned (.slice (some ⟨w.heap.size, 0, none⟩) 0 (grownCap w n 0 5)) ∧ w' = w.drew.alloc (.cells (Builtin.zeroCells #[.int .u8 0] n ++ Builtin.zeroCells #[.int .u8 0] (grownCap w n 0 5 - n)) 5) := by
  obtain ⟨i0, hi0, hz0, hz1, hz2⟩ := info_parts T.info5
  have hap := Lib.run_append_grow_zeros (P := Try.prog) w 30 3 30 5 i0 (.int .u8 0) .i64 .i64 Try.underlying30 Try.underlying3 hi0 hz0 none 0 0 [] (run_firstCells_none w.drew i0.size 0 0 0) n h0 (by omega) (by omega) (by omega) (by rw [hz2]; omega) (growslice_fits (by omega) (by rw [hz2]; omega))
  simp only [Nat.zero_add] at hap
  have hx : #[] ++ Builtin.zeroCells (Value.int .u8 0).cells n ++ Builtin.zeroCells (Value.int .u8 0).cells (grownCap w n 0 5 - n) = Builtin.zeroCells #[.int .u8 0] n ++ Builtin.zeroCells #[.int .u8 0] (grownCap w n 0 5 - n) := by simp [Value.cells]
  go_enter Try.func95, Try.ntmps95
  rw [hx] at hap
  have HAP := Lib.hid hap
  clear hap hx
  go_wp2_with
    (at_builtin
     go_must (refine wpList_append_run rfl (.tmp 20) (.tmp 21) 30 3 rfl _ _ (HAP.out) ?_))
  go_ret
  exact ⟨rfl, rfl⟩

end Go.Proofs.Ytlgcdcjfobfoiaa
