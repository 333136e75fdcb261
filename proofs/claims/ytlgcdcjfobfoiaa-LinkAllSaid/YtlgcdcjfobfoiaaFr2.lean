/-
  How a law's argument that is a slice of integers is read. No condition.
-/
import Derived.Test.YtlgcdcjfobfoiaaFr
import Derived.Test.YtlgcdcjfobfoiaaLw2
namespace Go.Proofs.Ytlgcdcjfobfoiaa
open Go.ChangeShapes Go.WideShapes Go.ChangeAt Go.RowKit Go.Deep
set_option maxRecDepth 100000
section
variable {H : Type} {enc : TypeId × Value → H} {P : Program} {w : World} {base : Nat} {spare : Nat → Bool} {held : Bool}
theorem open_is {t e : TypeId} {k : IntKind} {fuel : Nat} {A : Option Addr} {n c : Nat} {x : DataW H × List MemPlace} (ht : P.underlying t = some (.slice e)) (hsz : P.cellsOf e = 1) (he : P.underlying e = some (.int k))
    (h : DataW.trod enc P w base spare held fuel t [.slice A n c] = some x) :
    ∃ l : List Int, n = l.length ∧ n ≤ c ∧ c ≤ 9223372036854775807 ∧ Rd w w.heap.size 1 A n (l.map (Value.int k)) ∧ ∀ i ∈ l, (Lit.int k i).wf = true := by
  have hnc : n ≤ c ∧ c ≤ 9223372036854775807 := by
    rcases open_slice ht h with ⟨hcs, _⟩ | ⟨a, len, cap, m, q, D, Pl, hcs, _, hl, hm, _⟩
    · simp at hcs; omega
    · simp at hcs
      unfold maxLen at hm
      omega
  obtain ⟨hm, V, hr, hV⟩ := open_cells ht hsz (by omega) h
  have key : ∀ i, i < n → ∃ z : Int, (List.range 1).map (V i) = [Value.int k z] ∧ (Lit.int k z).wf = true := by
    intro i hi
    obtain ⟨m, y, hy⟩ := hV i hi
    have e1 : (List.range 1).map (V i) = [V i 0] := rfl
    rw [e1] at hy
    obtain ⟨z, h0, _, w0⟩ := DataW.trod_int he hy
    exact ⟨z, by rw [e1, h0], w0⟩
  obtain ⟨Z, hZ⟩ := choose_lt (α := Int) (n := n) (p := fun i z => (List.range 1).map (V i) = [Value.int k z] ∧ (Lit.int k z).wf = true) key
  refine ⟨(List.range n).map Z, by simp, hnc.1, hnc.2, ?_, ?_⟩
  · have e : ((List.range n).flatMap fun i => (List.range 1).map (V i)) = ((List.range n).map Z).map (Value.int k) := by
      have e2 : ∀ l : List Nat, l.map (Value.int k ∘ Z) = l.flatMap fun i => [Value.int k (Z i)] := fun l => by
        induction l with
        | nil => rfl
        | cons a l ih => rw [List.map_cons, List.flatMap_cons, ih]; rfl
      rw [List.map_map, e2]
      exact flatMap_congr_range fun i hi => (hZ i hi).1
    rw [← e]; exact hr
  · intro i hi
    simp only [List.mem_map, List.mem_range] at hi
    obtain ⟨j, hj, rfl⟩ := hi
    exact (hZ j hj).2
end
end Go.Proofs.Ytlgcdcjfobfoiaa
