/-
  How the laws' arguments are read: a slice of structs of three integers as a list; a slice of integers as a list. No condition.
-/
import Derived.Test.YtlgcdcjfobfoiaaLw1
import Derived.ProofKit
import Derived.OpenShut
import Derived.ShutString
import Derived.ChangeOld
import Derived.Deep.Slices
import Derived.Deep.Fields
namespace Go.Proofs.Ytlgcdcjfobfoiaa
open Go.ChangeShapes Go.WideShapes Go.ChangeAt Go.RowKit Go.Deep
set_option maxRecDepth 100000

theorem own : ownKnob Try.prog.godebug = none := by kernel_rfl
theorem laidOut : laidOutB Try.prog = true := by kernel_rfl

theorem flat_len (n size : Nat) (V : Nat → Nat → Value) : ((List.range n).flatMap fun i => (List.range size).map (V i)).length = n * size := by
  induction n with
  | zero => simp
  | succ n ih => rw [List.range_succ, List.flatMap_append, List.length_append, ih, Nat.add_mul]; simp

section
variable {H : Type} {enc : TypeId × Value → H} {P : Program} {w : World} {base : Nat} {spare : Nat → Bool} {held : Bool}

/-- The cells of a slice, as many as its length, whatever its elements are made of. -/
theorem open_cells {t e : TypeId} {fuel : Nat} {A : Option Addr} {n c size : Nat} {x : DataW H × List MemPlace} (ht : P.underlying t = some (.slice e)) (hsz : P.cellsOf e = size) (h0 : 0 < size)
    (h : DataW.trod enc P w base spare held fuel t [.slice A n c] = some x) :
    n ≤ maxLen ∧ ∃ V : Nat → Nat → Value, Rd w w.heap.size size A n ((List.range n).flatMap fun i => (List.range size).map (V i)) ∧
      ∀ i, i < n → ∃ m y, DataW.trod enc P w base spare held m e ((List.range size).map (V i)) = some y := by
  rcases open_slice ht h with ⟨hcs, _⟩ | ⟨a, len, cap, m, k, D, Pl, hcs, _, hl, hm, hmm, _, hi⟩
  · simp at hcs
    obtain ⟨rfl, rfl, rfl⟩ := hcs
    exact ⟨by unfold maxLen; omega, fun _ _ => undef, Rd.nil_ _, fun i hi => absurd hi (by omega)⟩
  · simp at hcs
    obtain ⟨rfl, rfl, rfl⟩ := hcs
    have hnm : n ≤ m := by rw [hmm]; split <;> omega
    have key : ∀ i, i < n → ∃ f : Nat → Value, (∀ j, j < size → w.cell? (a.add (i * size + j)) = some (f j)) ∧ ∃ m y, DataW.trod enc P w base spare held m e ((List.range size).map f) = some y := by
      intro i hin
      obtain ⟨cs', hc, htr⟩ := hi i (by omega)
      rw [hsz] at hc
      obtain ⟨_, hcl, hat⟩ := World.cells?_some hc
      refine ⟨fun j => cs'.getD j undef, fun j hj => ?_, k, (D i, Pl i), ?_⟩
      · have := hat j hj
        rw [add_add] at this
        rw [this, List.getElem?_eq_getElem (by omega)]
        simp [List.getD, List.getElem?_eq_getElem (show j < cs'.length by omega)]
      · have e1 : (List.range size).map (fun j => cs'.getD j undef) = cs' := by
          apply List.ext_getElem?
          intro j
          by_cases hj : j < size
          · simp [hj, List.getD, List.getElem?_eq_getElem (show j < cs'.length by omega)]
          · simp [hj, List.getElem?_eq_none (show cs'.length ≤ j by omega)]
        rw [e1]
        exact htr
    obtain ⟨V, hV⟩ := choose_lt (α := Nat → Value) (n := n) (p := fun i f => (∀ j, j < size → w.cell? (a.add (i * size + j)) = some (f j)) ∧ ∃ m y, DataW.trod enc P w base spare held m e ((List.range size).map f) = some y) key
    refine ⟨by omega, V, ⟨?_, fun hn => ?_⟩, fun i hin => (hV i hin).2⟩
    · exact flat_len n size V
    · have hc0 := (hV 0 hn).1 0 h0
      obtain ⟨b, off, spot⟩ := a
      have hspot : spot = none := by simpa [Addr.add] using World.cell?_spot hc0
      subst hspot
      refine ⟨b, off, rfl, ?_, fun j u hu => ?_⟩
      · have := World.block_lt_of_cell? w _ hc0
        rw [Addr.add_lit] at this
        exact this
      · have hlen : ((List.range n).flatMap fun i => (List.range size).map (V i)).length = n * size := flat_len n size V
        have hj : j < n * size := by
          rcases Nat.lt_or_ge j (n * size) with h | h
          · exact h
          · rw [List.getElem?_eq_none (by omega)] at hu; cases hu
        have hq : j / size < n := (Nat.div_lt_iff_lt_mul h0).2 hj
        have hr : j % size < size := Nat.mod_lt _ h0
        have hcell := (hV (j / size) hq).1 (j % size) hr
        rw [Addr.add_lit, Nat.mul_comm (j / size), Nat.div_add_mod] at hcell
        rw [hcell]
        have hget : ((List.range n).flatMap fun i => (List.range size).map (V i))[j]? = some (V (j / size) (j % size)) := by
          clear hu hcell hlen hj hV key
          have gen : ∀ (q n : Nat) (F : Nat → Nat → Value), q < n → ∀ r, r < size → ((List.range n).flatMap fun i => (List.range size).map (F i))[q * size + r]? = some (F q r) := by
            intro q
            induction q with
            | zero =>
              intro n F hq r hr
              obtain ⟨n, rfl⟩ : ∃ n', n = n' + 1 := ⟨n - 1, by omega⟩
              rw [List.range_succ_eq_map, List.flatMap_cons, List.getElem?_append_left (by simp; omega)]
              simp [hr]
            | succ q ih =>
              intro n F hq r hr
              obtain ⟨n, rfl⟩ : ∃ n', n = n' + 1 := ⟨n - 1, by omega⟩
              rw [List.range_succ_eq_map, List.flatMap_cons, List.getElem?_append_right (by simp; rw [Nat.add_mul]; omega), List.flatMap_map]
              have := ih n (fun i => F (i + 1)) (by omega) r hr
              rw [← this]
              congr 1
              simp; rw [Nat.add_mul]; omega
          have := gen (j / size) n V hq (j % size) hr
          rw [Nat.mul_comm (j / size), Nat.div_add_mod] at this
          exact this
        rw [hget] at hu
        exact hu

/-- A slice of structs of three integers. -/
theorem open_i3 {t e : TypeId} {f0 f1 f2 : Field} {fuel : Nat} {A : Option Addr} {n c : Nat} {x : DataW H × List MemPlace} (ht : P.underlying t = some (.slice e)) (he : P.underlying e = some (.struct #[f0, f1, f2])) (hone : oneCellFields P #[f0, f1, f2] = true)
    (hsz : P.cellsOf e = 3) (k0 : P.underlying f0.type = some (.int .i64)) (k1 : P.underlying f1.type = some (.int .i64)) (k2 : P.underlying f2.type = some (.int .i64)) (h : DataW.trod enc P w base spare held fuel t [.slice A n c] = some x) :
    ∃ l : List Inp, n = l.length ∧ n ≤ 9223372036854775807 ∧ Rd w w.heap.size 3 A n (inCs l) ∧ ∀ i ∈ l, i.wf := by
  obtain ⟨hm, V, hr, hV⟩ := open_cells ht hsz (by omega) h
  have key : ∀ i, i < n → ∃ z : Int × Int × Int, (List.range 3).map (V i) = Inp.cs ⟨z.1, z.2.1, z.2.2⟩ ∧ Inp.wf ⟨z.1, z.2.1, z.2.2⟩ := by
    intro i hi
    obtain ⟨m, y, hy⟩ := hV i hi
    obtain ⟨xs, n', _, hx, _, hlen, hg⟩ := DataW.trod_struct he hy
    obtain ⟨o0, c0⟩ := hone_of hone 0 f0 rfl
    obtain ⟨o1, c1⟩ := hone_of hone 1 f1 rfl
    obtain ⟨o2, c2⟩ := hone_of hone 2 f2 rfl
    have g0 := hg 0 f0 rfl
    have g1 := hg 1 f1 rfl
    have g2 := hg 2 f2 rfl
    simp at hlen
    rw [o0, c0, List.getElem?_eq_getElem (by omega)] at g0
    rw [o1, c1, List.getElem?_eq_getElem (by omega)] at g1
    rw [o2, c2, List.getElem?_eq_getElem (by omega)] at g2
    have e3 : (List.range 3).map (V i) = [V i 0, V i 1, V i 2] := rfl
    rw [e3] at g0 g1 g2
    obtain ⟨z0, h0, _, w0⟩ := DataW.trod_int k0 g0
    obtain ⟨z1, h1, _, w1⟩ := DataW.trod_int k1 g1
    obtain ⟨z2, h2, _, w2⟩ := DataW.trod_int k2 g2
    simp at h0 h1 h2
    exact ⟨(z0, z1, z2), by rw [e3, h0, h1, h2]; rfl, w0, w1, w2⟩
  obtain ⟨Z, hZ⟩ := choose_lt (α := Int × Int × Int) (n := n) (p := fun i z => (List.range 3).map (V i) = Inp.cs ⟨z.1, z.2.1, z.2.2⟩ ∧ Inp.wf ⟨z.1, z.2.1, z.2.2⟩) key
  refine ⟨(List.range n).map fun i => ⟨(Z i).1, (Z i).2.1, (Z i).2.2⟩, by simp, by unfold maxLen at hm; omega, ?_, ?_⟩
  · have e : ((List.range n).flatMap fun i => (List.range 3).map (V i)) = inCs ((List.range n).map fun i => ⟨(Z i).1, (Z i).2.1, (Z i).2.2⟩) := by
      unfold inCs
      rw [List.flatMap_map]
      exact flatMap_congr_range fun i hi => (hZ i hi).1
    rw [← e]; exact hr
  · intro i hi
    simp only [List.mem_map, List.mem_range] at hi
    obtain ⟨j, hj, rfl⟩ := hi
    exact (hZ j hj).2
end
end Go.Proofs.Ytlgcdcjfobfoiaa
