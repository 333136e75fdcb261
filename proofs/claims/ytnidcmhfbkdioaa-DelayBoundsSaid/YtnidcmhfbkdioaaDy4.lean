/-
  A delay in memory ('DlSt'); the contracts of New, Value, median. Conditions: a delay in memory.
-/
import Derived.Test.YtnidcmhfbkdioaaDy3
import Derived.Test.YtnidcmhfbkdioaaSh
import Derived.Laws.ResultCell
namespace Go.Proofs.Ytnidcmhfbkdioaa
open Go.RowKit
set_option maxRecDepth 100000

/-! ### What a call may have touched: the blocks of F, and what is new -/
structure Fq (F : List Nat) (w w' : World) : Prop where
  os : w'.os = w.os
  tape : w'.tape = w.tape
  output : w'.output = w.output
  size : w.heap.size ≤ w'.heap.size
  low : ∀ k, k < w.heap.size → k ∉ F → w'.heap[k]? = w.heap[k]?
/-- F' is F, but for what is new. -/
def SubF (F F' : List Nat) (s : Nat) : Prop := ∀ k ∈ F', k ∈ F ∨ s ≤ k
section
variable {F F' G : List Nat} {a b c w w' : World} {B : Nat}
theorem Fq.refl : Fq F w w := ⟨rfl, rfl, rfl, Nat.le_refl _, fun _ _ _ => rfl⟩
theorem Fq.trans (h : Fq F a b) (k : Fq G b c) (hs : SubF F G a.heap.size) : Fq F a c :=
  ⟨k.os.trans h.os, k.tape.trans h.tape, k.output.trans h.output, Nat.le_trans h.size k.size,
   fun i h1 h2 => (k.low i (Nat.lt_of_lt_of_le h1 h.size) (fun hi => by rcases hs i hi with hj | hj; exact h2 hj; omega)).trans (h.low i h1 h2)⟩
theorem Fq.of_below (h : Below w.heap.size w w') : Fq F w w' := ⟨h.os, h.tape, h.output, h.size, fun k hk _ => h.block k hk⟩
theorem Fq.below (h : Fq F w w') (hF : ∀ k ∈ F, B ≤ k) (hB : B ≤ w.heap.size) : Below B w w' :=
  ⟨h.os, h.tape, h.output, h.size, fun k hk => h.low k (by omega) (fun hi => by have := hF k hi; omega)⟩
theorem Fq.drew (h : Fq F a w) : Fq F a w.drew := ⟨h.os, h.tape, h.output, h.size, h.low⟩
theorem Fq.drewN (h : Fq F a w) (n : Nat) : Fq F a (w.drewN n) := ⟨h.os, h.tape, h.output, h.size, h.low⟩
theorem Fq.set (h : Fq F a w) {g : Nat} (hg : g ∈ F ∨ a.heap.size ≤ g) (i : Nat) (u : Value) : Fq F a (w.setCell ⟨g, i, none⟩ u) :=
  ⟨h.os, h.tape, h.output, by simp [World.setCell]; exact h.size, fun k h1 h2 => (Below.heap_setCell _ _ _ _ (by show k ≠ g; rintro rfl; rcases hg with hg | hg; exact h2 hg; omega)).trans (h.low k h1 h2)⟩
theorem Fq.alloc (h : Fq F a w) (o : Obj) : Fq F a (w.alloc o) :=
  ⟨h.os, h.tape, h.output, by simp; exact Nat.le_succ_of_le h.size, fun k h1 h2 => (Below.heap_alloc _ _ _ (Nat.lt_of_lt_of_le h1 h.size)).trans (h.low k h1 h2)⟩
theorem Fq.grown (h : Fq F a w) {row : Option Nat} (hg : w.grownBy w' row) (hr : ∀ g, row = some g → g ∈ F ∨ a.heap.size ≤ g) : Fq F a w' :=
  ⟨hg.os.trans h.os, hg.tape.trans h.tape, hg.output.trans h.output, Nat.le_trans h.size hg.size, fun k h1 h2 => (hg.block k (Nat.lt_of_lt_of_le h1 h.size) (fun e => by rcases hr k e.symm with h3 | h3; exact h2 h3; omega)).trans (h.low k h1 h2)⟩
theorem SubF.refl (F : List Nat) (s : Nat) : SubF F F s := fun _ h => .inl h
theorem SubF.trans {s t : Nat} (h : SubF F F' s) (k : SubF F' G t) (hst : s ≤ t) : SubF F G s := fun i hi => by
  rcases k i hi with hj | hj
  · exact h i hj
  · exact .inr (by omega)
end
def blkA (A : Option Addr) : List Nat := (A.map (·.block)).toList
theorem blkA_mem {A : Option Addr} {k : Nat} : k ∈ blkA A ↔ A.map (·.block) = some k := by
  unfold blkA; simp [Option.mem_toList]

/-- A delay at block g; F: its blocks. -/
structure DlSt (w : World) (base : Nat) (F : List Nat) (g : Nat) (low high now : Int) (last : List Int) (calm : Nat) : Prop where
  st : ∃ A c, Bk w g 234 #[.int .i64 low, .int .i64 high, .int .i64 now, .slice A last.length c, .int .i64 calm] ∧ Sh w base 3 1 A last.length c (last.map (Value.int .i64)) ∧ F = g :: blkA A
  lo : ∀ k ∈ F, base ≤ k ∧ k < w.heap.size
theorem DlSt.keep {w w' : World} {base g : Nat} {F : List Nat} {low high now : Int} {last : List Int} {calm : Nat} (h : DlSt w base F g low high now last calm) (hk : ∀ k ∈ F, w'.heap[k]? = w.heap[k]?) (hs : w.heap.size ≤ w'.heap.size) : DlSt w' base F g low high now last calm := by
  obtain ⟨⟨A, c, h1, h2, rfl⟩, h3⟩ := h
  exact ⟨⟨A, c, (hk g (by simp)).trans h1, h2.keep fun k cs hA hb => (hk k (by simp [blkA_mem, hA])).trans hb, rfl⟩, fun k hk => ⟨(h3 k hk).1, Nat.lt_of_lt_of_le (h3 k hk).2 hs⟩⟩
theorem DlSt.below {w w' : World} {base g : Nat} {F : List Nat} {low high now : Int} {last : List Int} {calm : Nat} (h : DlSt w base F g low high now last calm) (hb : Below w.heap.size w w') : DlSt w' base F g low high now last calm :=
  h.keep (fun k hk => hb.block k (h.lo k hk).2) hb.size

theorem value_any {w : World} {base g : Nat} {F : List Nat} {low high now : Int} {last : List Int} {calm : Nat} (h : DlSt w base F g low high now last calm) :
    Calls Try.prog 51 #[.pointer (some ⟨g, 0, none⟩)] w fun e w' => e = .returned (.int .i64 now) ∧ w = w' := by
  obtain ⟨⟨A, c, hk, hs, -⟩, h2⟩ := h
  have c2 := hk.cell 2
  simp only [List.getElem?_toArray, List.getElem?_cons_zero, List.getElem?_cons_succ] at c2
  clear hk hs
  go_enter Try.func51, Try.ntmps51
  go_wp2_with fail
  go_ret
  exact ⟨rfl, rfl⟩

def NewP (w : World) (low high : Int) (e : Ending) (w' : World) : Prop :=
  ((low < 0 ∨ 20 < high ∨ high < low) ∧ e = .returned (.tuple #[.pointer none, .int .i64 1]) ∧ w = w') ∨
  (¬ (low < 0 ∨ 20 < high ∨ high < low) ∧ e = .returned (.tuple #[.pointer (some ⟨w.heap.size, 0, none⟩), .int .i64 0]) ∧ DlSt w' w.heap.size [w.heap.size] w.heap.size low high low [] 0 ∧ Below w.heap.size w w')
theorem new_any (low high : Int) (w : World) : Calls Try.prog 49 #[.int .i64 low, .int .i64 high] w (NewP w low high) := by
  by_cases h1 : low < 0
  · go_enter Try.func49, Try.ntmps49
    go_wp2_with fail
    go_ret2
    exact .inl ⟨.inl h1, rfl, rfl⟩
  · by_cases h2 : 20 < high
    · go_enter Try.func49, Try.ntmps49
      go_wp2_with fail
      go_ret2
      exact .inl ⟨.inr (.inl h2), rfl, rfl⟩
    · by_cases h3 : high < low
      · go_enter Try.func49, Try.ntmps49
        go_wp2_with fail
        go_ret2
        exact .inl ⟨.inr (.inr h3), rfl, rfl⟩
      · go_enter Try.func49, Try.ntmps49
        go_wp2_with fail
        go_ret2
        refine .inr ⟨by omega, rfl, ⟨⟨none, 0, Bk.new _ _ _, Sh.nil_ _ _ _ _, rfl⟩, by simp⟩, (Below.refl _ _).alloc (Nat.le_refl _) _⟩

set_option maxHeartbeats 800000 in
theorem median_any {w : World} {base g : Nat} {F : List Nat} {low high now : Int} {last : List Int} {calm : Nat} (h : DlSt w base F g low high now last calm) (h0 : 0 < last.length) (h9 : last.length ≤ 9) :
    Calls Try.prog 129 #[.pointer (some ⟨g, 0, none⟩)] w fun e w' => e = .returned (.int .i64 (medF last)) ∧ Below w.heap.size w w' := by
  obtain ⟨⟨A, c, hk, hs, -⟩, h2⟩ := h
  have c3 := hk.cell 3
  simp only [List.getElem?_toArray, List.getElem?_cons_zero, List.getElem?_cons_succ] at c3
  have hS := sorted_lit A last.length c last (by omega) h0 w.heap.size w hs.rd (Nat.le_refl _)
  clear hk hs
  obtain ⟨m, hm⟩ : ∃ m, m = medF last := ⟨_, rfl⟩
  have hmm : ∃ q, q = (last.length - 1) / 2 ∧ q < last.length ∧ ((srt last).map (Value.int .i64))[q]? = some (.int .i64 m) := by
    refine ⟨_, rfl, by omega, ?_⟩
    have hlt : (last.length - 1) / 2 < (srt last).length := by rw [srt_length]; omega
    rw [List.getElem?_map, List.getElem?_eq_getElem hlt, hm]
    unfold medF
    rw [List.getD_eq_getElem?_getD, List.getElem?_eq_getElem hlt]
    rfl
  obtain ⟨q, hq, hql, hqv⟩ := hmm
  rw [← hm]
  have HS := Lib.hid hS
  have HQV := Lib.hid hqv
  clear hm hqv hS
  generalize hn : last.length = n at *
  have hq' : ((n : Int) - 1) / 2 = (q : Int) := by omega
  have HQ := Lib.hid hq'
  have HN := Lib.hid hn
  clear hq hn hq'
  have HV := Lib.hid values_any
  go_enter Try.func129, Try.ntmps129
  go_wp2_with fail
  refine (HV.out _ _ _ _).mono ?_
  rintro e w1 ⟨rfl, rfl⟩
  go_wp2_with fail
  refine HS.out.mono ?_
  rintro e w2 ⟨v, rfl, hown, hb⟩
  rw [HN.out] at hown
  obtain ⟨A', c', rfl⟩ := ownsRow_slice hown
  obtain ⟨g1, cap, hv, _, hlt1⟩ := hown.form h0
  have hA : A' = some ⟨g1, 0, none⟩ := by injection hv
  subst hA
  have hcell : w2.cell? ⟨g1, q, none⟩ = some (.int .i64 m) := by
    have := hown.cells (g := g1) rfl q _ HQV.out
    rw [Addr.add_lit] at this
    simpa using this
  have HB : Hid (Below w.heap.size w w2) := Lib.hid (((Below.refl w.heap.size w).alloc (Nat.le_refl _) (.cells #[.slice A n c] 30)).trans (hb.mono (by simp)))
  clear hown hb hv
  have hq2 := HQ.out
  go_wp2_with fail
  go_ret
  exact ⟨rfl, HB.out⟩
end Go.Proofs.Ytnidcmhfbkdioaa
