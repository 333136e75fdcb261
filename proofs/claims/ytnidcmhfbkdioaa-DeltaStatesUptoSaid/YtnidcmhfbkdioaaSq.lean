/-
  What a call may have touched, as a list of blocks; the contract of tourmake.Below. Conditions: none; numbers that fit their kinds.
-/
import Derived.Test.YtnidcmhfbkdioaaKit
import Derived.Laws.ResultCell
import Derived.Laws.CopyOwn
import Derived.ArgAppend
import Derived.RegionTactic
import Derived.ChangeAlike
import Derived.BigRegion
import Derived.IntWalk
namespace Go.Proofs.Ytnidcmhfbkdioaa
open Go.RowKit
set_option maxRecDepth 100000

theorem T.info3 : (Try.prog.info? 3).map (fun i => (i.zero, i.size, i.bytes)) = some (some (.int .i64 0), 1, 8) := by kernel_rfl
/-! ### What a call may have touched: the blocks of F, and what is new -/
structure Fq (F : List Nat) (w w' : World) : Prop where
  os : w'.os = w.os
  tape : w'.tape = w.tape
  output : w'.output = w.output
  size : w.heap.size ≤ w'.heap.size
  low : ∀ k, k < w.heap.size → k ∉ F → w'.heap[k]? = w.heap[k]?
/-- F' is F, but for what is new. -/
def SubF (F F' : List Nat) (s : Nat) : Prop := ∀ k ∈ F', k ∈ F ∨ s ≤ k
section
variable {F F' G : List Nat} {a b c w w' : World} {B : Nat}
theorem Fq.refl : Fq F w w := ⟨rfl, rfl, rfl, Nat.le_refl _, fun _ _ _ => rfl⟩
theorem Fq.trans (h : Fq F a b) (k : Fq G b c) (hs : SubF F G a.heap.size) : Fq F a c :=
  ⟨k.os.trans h.os, k.tape.trans h.tape, k.output.trans h.output, Nat.le_trans h.size k.size,
   fun i h1 h2 => (k.low i (Nat.lt_of_lt_of_le h1 h.size) (fun hi => by rcases hs i hi with hj | hj; exact h2 hj; omega)).trans (h.low i h1 h2)⟩
theorem Fq.of_below (h : Below w.heap.size w w') : Fq F w w' := ⟨h.os, h.tape, h.output, h.size, fun k hk _ => h.block k hk⟩
theorem Fq.below (h : Fq F w w') (hF : ∀ k ∈ F, B ≤ k) (hB : B ≤ w.heap.size) : Below B w w' :=
  ⟨h.os, h.tape, h.output, h.size, fun k hk => h.low k (by omega) (fun hi => by have := hF k hi; omega)⟩
theorem Fq.drew (h : Fq F a w) : Fq F a w.drew := ⟨h.os, h.tape, h.output, h.size, h.low⟩
theorem Fq.drewN (h : Fq F a w) (n : Nat) : Fq F a (w.drewN n) := ⟨h.os, h.tape, h.output, h.size, h.low⟩
theorem Fq.set (h : Fq F a w) {g : Nat} (hg : g ∈ F ∨ a.heap.size ≤ g) (i : Nat) (u : Value) : Fq F a (w.setCell ⟨g, i, none⟩ u) :=
  ⟨h.os, h.tape, h.output, by simp [World.setCell]; exact h.size, fun k h1 h2 => (Below.heap_setCell _ _ _ _ (by show k ≠ g; rintro rfl; rcases hg with hg | hg; exact h2 hg; omega)).trans (h.low k h1 h2)⟩
theorem Fq.alloc (h : Fq F a w) (o : Obj) : Fq F a (w.alloc o) :=
  ⟨h.os, h.tape, h.output, by simp; exact Nat.le_succ_of_le h.size, fun k h1 h2 => (Below.heap_alloc _ _ _ (Nat.lt_of_lt_of_le h1 h.size)).trans (h.low k h1 h2)⟩
theorem Fq.grown (h : Fq F a w) {row : Option Nat} (hg : w.grownBy w' row) (hr : ∀ g, row = some g → g ∈ F ∨ a.heap.size ≤ g) : Fq F a w' :=
  ⟨hg.os.trans h.os, hg.tape.trans h.tape, hg.output.trans h.output, Nat.le_trans h.size hg.size, fun k h1 h2 => (hg.block k (Nat.lt_of_lt_of_le h1 h.size) (fun e => by rcases hr k e.symm with h3 | h3; exact h2 h3; omega)).trans (h.low k h1 h2)⟩
theorem SubF.refl (F : List Nat) (s : Nat) : SubF F F s := fun _ h => .inl h
theorem SubF.trans {s t : Nat} (h : SubF F F' s) (k : SubF F' G t) (hst : s ≤ t) : SubF F G s := fun i hi => by
  rcases k i hi with hj | hj
  · exact h i hj
  · exact .inr (by omega)
end
def blkA (A : Option Addr) : List Nat := (A.map (·.block)).toList
theorem blkA_mem {A : Option Addr} {k : Nat} : k ∈ blkA A ↔ A.map (·.block) = some k := by
  unfold blkA; simp [Option.mem_toList]

theorem own_keepB {w w' : World} {base size n : Nat} {e : TypeId} {v : Value} {xs : List Value} (h : w.ownsRow base e size v n xs) (hk : ∀ g, v.ownBlock = some g → w'.heap[g]? = w.heap[g]?) : w'.ownsRow base e size v n xs := by
  refine ⟨h.1, ?_⟩
  rcases h.2 with h2 | ⟨g, cap, cur, rfl, h3, h4, h5⟩
  · exact .inl h2
  · exact .inr ⟨g, cap, cur, rfl, h3, (hk g rfl).trans h4, h5⟩
theorem tmod_emod (x n : Int) (hn : 0 < n) : (x.tmod n < 0 → x.tmod n + n = x % n) ∧ (0 ≤ x.tmod n → x.tmod n = x % n) ∧ -n < x.tmod n ∧ x.tmod n < n := by
  have h1 := @Int.tmod_eq_emod x n
  have hd : ∀ (p : Prop) [Decidable p] (a b : Nat), ((if p then a else b : Nat) : Int) = if p then (a : Int) else b := fun p _ a b => by split <;> rfl
  rw [hd] at h1
  have h2 : n.natAbs = n := by omega
  have h3 := Int.emod_nonneg x (show n ≠ 0 by omega)
  have h4 := Int.emod_lt_of_pos x hn
  split at h1
  · refine ⟨fun h => ?_, fun h => ?_, ?_, ?_⟩ <;> omega
  · refine ⟨fun h => ?_, fun h => ?_, ?_, ?_⟩ <;> omega

set_option maxHeartbeats 800000 in
theorem below_any (x n : Int) (w : World) (h1 : 1 ≤ n) (h2 : n ≤ 9223372036854775807) :
    Calls Try.prog 24 #[.int .i64 x, .int .i64 n] w fun e w' => e = .returned (.int .i64 (x % n)) ∧ w = w' := by
  obtain ⟨m1, m2, m3, m4⟩ := tmod_emod x n (by omega)
  have M1 := Lib.hid m1
  have M2 := Lib.hid m2
  generalize hT : x.tmod n = T at *
  have HE : Hid (x % n = x % n) := Lib.hid rfl
  generalize x % n = E at *
  clear m1 m2 HE
  have hnz : (n == 0) = false := by simp; omega
  by_cases hT0 : T < 0
  · go_enter Try.func24, Try.ntmps24
    go_wp2_with fail
    go_ret
    exact ⟨ret_i (M1.out hT0), rfl⟩
  · go_enter Try.func24, Try.ntmps24
    go_wp2_with fail
    go_ret
    exact ⟨ret_i (M2.out (by omega)), rfl⟩

end Go.Proofs.Ytnidcmhfbkdioaa
