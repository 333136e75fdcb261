/-
  How a law's arguments are read: the cells of a slice; a slice of integers; the reach. No condition.
-/
import Derived.Test.YtnidcmhfbkdioaaKit
import Derived.ProofKit
import Derived.OpenShut
import Derived.ShutString
import Derived.ChangeOld
import Derived.SizedLaws
import Derived.Deep.Slices
import Derived.Deep.Fields
namespace Go.Proofs.Ytnidcmhfbkdioaa
open Go.ChangeShapes Go.WideShapes Go.ChangeAt Go.RowKit Go.Deep
set_option maxRecDepth 100000

theorem own : ownKnob Try.prog.godebug = none := by kernel_rfl
theorem laidOut : laidOutB Try.prog = true := by kernel_rfl

theorem flat_len_fo (n size : Nat) (V : Nat → Nat → Value) : ((List.range n).flatMap fun i => (List.range size).map (V i)).length = n * size := by
  induction n with
  | zero => simp
  | succ n ih => rw [List.range_succ, List.flatMap_append, List.length_append, ih, Nat.add_mul]; simp

section
variable {H : Type} {enc : TypeId × Value → H} {P : Program} {w : World} {base : Nat} {spare : Nat → Bool} {held : Bool}

/-- The cells of a slice, as many as its length, whatever its elements are made of. -/
theorem open_cells {t e : TypeId} {fuel : Nat} {A : Option Addr} {n c size : Nat} {x : DataW H × List MemPlace} (ht : P.underlying t = some (.slice e)) (hsz : P.cellsOf e = size) (h0 : 0 < size)
    (h : DataW.trod enc P w base spare held fuel t [.slice A n c] = some x) :
    n ≤ maxLen ∧ ∃ V : Nat → Nat → Value, Rd w w.heap.size size A n ((List.range n).flatMap fun i => (List.range size).map (V i)) ∧
      ∀ i, i < n → ∃ m y, DataW.trod enc P w base spare held m e ((List.range size).map (V i)) = some y := by
  rcases open_slice ht h with ⟨hcs, _⟩ | ⟨a, len, cap, m, k, D, Pl, hcs, _, hl, hm, hmm, _, hi⟩
  · simp at hcs
    obtain ⟨rfl, rfl, rfl⟩ := hcs
    exact ⟨by unfold maxLen; omega, fun _ _ => undef, Rd.nil_ _, fun i hi => absurd hi (by omega)⟩
  · simp at hcs
    obtain ⟨rfl, rfl, rfl⟩ := hcs
    have hnm : n ≤ m := by rw [hmm]; split <;> omega
    have key : ∀ i, i < n → ∃ f : Nat → Value, (∀ j, j < size → w.cell? (a.add (i * size + j)) = some (f j)) ∧ ∃ m y, DataW.trod enc P w base spare held m e ((List.range size).map f) = some y := by
      intro i hin
      obtain ⟨cs', hc, htr⟩ := hi i (by omega)
      rw [hsz] at hc
      obtain ⟨_, hcl, hat⟩ := World.cells?_some hc
      refine ⟨fun j => cs'.getD j undef, fun j hj => ?_, k, (D i, Pl i), ?_⟩
      · have := hat j hj
        rw [add_add] at this
        rw [this, List.getElem?_eq_getElem (by omega)]
        simp [List.getD, List.getElem?_eq_getElem (show j < cs'.length by omega)]
      · have e1 : (List.range size).map (fun j => cs'.getD j undef) = cs' := by
          apply List.ext_getElem?
          intro j
          by_cases hj : j < size
          · simp [hj, List.getD, List.getElem?_eq_getElem (show j < cs'.length by omega)]
          · simp [hj, List.getElem?_eq_none (show cs'.length ≤ j by omega)]
        rw [e1]
        exact htr
    obtain ⟨V, hV⟩ := choose_lt (α := Nat → Value) (n := n) (p := fun i f => (∀ j, j < size → w.cell? (a.add (i * size + j)) = some (f j)) ∧ ∃ m y, DataW.trod enc P w base spare held m e ((List.range size).map f) = some y) key
    refine ⟨by omega, V, ⟨?_, fun hn => ?_⟩, fun i hin => (hV i hin).2⟩
    · exact flat_len_fo n size V
    · have hc0 := (hV 0 hn).1 0 h0
      obtain ⟨b, off, spot⟩ := a
      have hspot : spot = none := by simpa [Addr.add] using World.cell?_spot hc0
      subst hspot
      refine ⟨b, off, rfl, ?_, fun j u hu => ?_⟩
      · have := World.block_lt_of_cell? w _ hc0
        rw [Addr.add_lit] at this
        exact this
      · have hlen : ((List.range n).flatMap fun i => (List.range size).map (V i)).length = n * size := flat_len_fo n size V
        have hj : j < n * size := by
          rcases Nat.lt_or_ge j (n * size) with h | h
          · exact h
          · rw [List.getElem?_eq_none (by omega)] at hu; cases hu
        have hq : j / size < n := (Nat.div_lt_iff_lt_mul h0).2 hj
        have hr : j % size < size := Nat.mod_lt _ h0
        have hcell := (hV (j / size) hq).1 (j % size) hr
        rw [Addr.add_lit, Nat.mul_comm (j / size), Nat.div_add_mod] at hcell
        rw [hcell]
        have hget : ((List.range n).flatMap fun i => (List.range size).map (V i))[j]? = some (V (j / size) (j % size)) := by
          clear hu hcell hlen hj hV key
          have gen : ∀ (q n : Nat) (F : Nat → Nat → Value), q < n → ∀ r, r < size → ((List.range n).flatMap fun i => (List.range size).map (F i))[q * size + r]? = some (F q r) := by
            intro q
            induction q with
            | zero =>
              intro n F hq r hr
              obtain ⟨n, rfl⟩ : ∃ n', n = n' + 1 := ⟨n - 1, by omega⟩
              rw [List.range_succ_eq_map, List.flatMap_cons, List.getElem?_append_left (by simp; omega)]
              simp [hr]
            | succ q ih =>
              intro n F hq r hr
              obtain ⟨n, rfl⟩ : ∃ n', n = n' + 1 := ⟨n - 1, by omega⟩
              rw [List.range_succ_eq_map, List.flatMap_cons, List.getElem?_append_right (by simp; rw [Nat.add_mul]; omega), List.flatMap_map]
              have := ih n (fun i => F (i + 1)) (by omega) r hr
              rw [← this]
              congr 1
              simp; rw [Nat.add_mul]; omega
          have := gen (j / size) n V hq (j % size) hr
          rw [Nat.mul_comm (j / size), Nat.div_add_mod] at this
          exact this
        rw [hget] at hu
        exact hu


theorem open_cap {t e : TypeId} {fuel : Nat} {A : Option Addr} {n c : Nat} {x : DataW H × List MemPlace} (ht : P.underlying t = some (.slice e))
    (h : DataW.trod enc P w base spare held fuel t [.slice A n c] = some x) : n ≤ c ∧ c ≤ 9223372036854775807 := by
  rcases open_slice ht h with ⟨hcs, _⟩ | ⟨a, len, cap, m, q, D, Pl, hcs, _, hl, hm, _⟩
  · simp at hcs; omega
  · simp at hcs
    unfold maxLen at hm
    omega

theorem open_is {t e : TypeId} {k : IntKind} {fuel : Nat} {A : Option Addr} {n c : Nat} {x : DataW H × List MemPlace} (ht : P.underlying t = some (.slice e)) (hsz : P.cellsOf e = 1) (he : P.underlying e = some (.int k))
    (h : DataW.trod enc P w base spare held fuel t [.slice A n c] = some x) :
    ∃ l : List Int, n = l.length ∧ n ≤ c ∧ c ≤ 9223372036854775807 ∧ Rd w w.heap.size 1 A n (l.map (Value.int k)) ∧ ∀ i ∈ l, (Lit.int k i).wf = true := by
  have hnc : n ≤ c ∧ c ≤ 9223372036854775807 := by
    rcases open_slice ht h with ⟨hcs, _⟩ | ⟨a, len, cap, m, q, D, Pl, hcs, _, hl, hm, _⟩
    · simp at hcs; omega
    · simp at hcs
      unfold maxLen at hm
      omega
  obtain ⟨hm, V, hr, hV⟩ := open_cells ht hsz (by omega) h
  have key : ∀ i, i < n → ∃ z : Int, (List.range 1).map (V i) = [Value.int k z] ∧ (Lit.int k z).wf = true := by
    intro i hi
    obtain ⟨m, y, hy⟩ := hV i hi
    have e1 : (List.range 1).map (V i) = [V i 0] := rfl
    rw [e1] at hy
    obtain ⟨z, h0, _, w0⟩ := DataW.trod_int he hy
    exact ⟨z, by rw [e1, h0], w0⟩
  obtain ⟨Z, hZ⟩ := choose_lt (α := Int) (n := n) (p := fun i z => (List.range 1).map (V i) = [Value.int k z] ∧ (Lit.int k z).wf = true) key
  refine ⟨(List.range n).map Z, by simp, hnc.1, hnc.2, ?_, ?_⟩
  · have e : ((List.range n).flatMap fun i => (List.range 1).map (V i)) = ((List.range n).map Z).map (Value.int k) := by
      have e2 : ∀ l : List Nat, l.map (Value.int k ∘ Z) = l.flatMap fun i => [Value.int k (Z i)] := fun l => by
        induction l with
        | nil => rfl
        | cons a l ih => rw [List.map_cons, List.flatMap_cons, ih]; rfl
      rw [List.map_map, e2]
      exact flatMap_congr_range fun i hi => (hZ i hi).1
    rw [← e]; exact hr
  · intro i hi
    simp only [List.mem_map, List.mem_range] at hi
    obtain ⟨j, hj, rfl⟩ := hi
    exact (hZ j hj).2
theorem reach_len {ts : List TypeId} {ds : List (DataW H)} {j : Nat} {t e : TypeId} {fuel b : Nat} {A : Option Addr} {n c : Nat} {d : DataW H} {p : List MemPlace} (hsz : (DataW.weightsEach P ts ds).all (· ≤ reachBytes) = true)
    (ht : ts[j]? = some t) (hd : ds[j]? = some d) (hu : P.underlying t = some (.slice e)) (hb : P.bytesOf e = b) (h : DataW.trod enc P w base spare held fuel t [.slice A n c] = some (d, p)) : n * b ≤ 140737488351232 := by
  rcases open_slice hu h with ⟨hcs, _⟩ | ⟨a, len, cap, m, q, D, Pl, hcs, _, hl, hm, _, hx, _⟩
  · simp at hcs; rw [hcs.2.1]; simp
  · simp at hcs
    obtain ⟨_, rfl, rfl⟩ := hcs
    injection hx with hx _
    have := sized_slice hsz ht (by rw [hd, hx]) hu
    rw [hb] at this
    simp only [List.length_map, List.length_range, reachBytes] at this
    refine Nat.le_trans (Nat.mul_le_mul_right _ (Nat.le_add_right n (m - n))) this
end
end Go.Proofs.Ytnidcmhfbkdioaa
