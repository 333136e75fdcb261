/-
  How a law's argument that is a list of replacements is read. No condition.
-/
import Derived.Test.YtnidcmhfbkdioaaPd
import Derived.Test.YtnidcmhfbkdioaaFo
import Derived.Deep.Strs
namespace Go.Proofs.Ytnidcmhfbkdioaa
open Go.ChangeShapes Go.WideShapes Go.ChangeAt Go.RowKit Go.Deep
set_option maxRecDepth 100000

instance : Inhabited Ov := ⟨⟨none, 0, 0, [], 0, 0, 0⟩⟩
section
variable {H : Type} {enc : TypeId × Value → H} {w : World} {base : Nat} {spare : Nat → Bool} {held : Bool}
theorem slice_shapeV {P : Program} {t e : TypeId} {fuel : Nat} {cs : List Value} {x : DataW H × List MemPlace} (ht : P.underlying t = some (.slice e)) (h : DataW.trod enc P w base spare held fuel t cs = some x) :
    ∃ A n c, cs = [.slice A n c] := by
  rcases DataW.trod_slice ht h with ⟨hcs, _⟩ | ⟨a, len, cap, _, _, _, _, hcs, _⟩
  · exact ⟨_, _, _, hcs⟩
  · exact ⟨_, _, _, hcs⟩
/-- A slice of replacements. -/
theorem open_ovs {fuel : Nat} {A : Option Addr} {n c : Nat} {x : DataW H × List MemPlace} (h : DataW.trod enc Try.prog w base spare held fuel 44 [.slice A n c] = some x) :
    ∃ l : List Ov, OvsOk w w.heap.size A n c l := by
  have hsz : Try.prog.cellsOf 158 = 4 := by kernel_rfl
  obtain ⟨hm, V, hr, hV⟩ := open_cells Try.underlying44 hsz (by omega) h
  have hcap := open_cap Try.underlying44 h
  have key : ∀ i, i < n → ∃ z : Ov, (List.range 4).map (V i) = Ov.cs z ∧ OvOk w w.heap.size z := by
    intro i hi
    obtain ⟨m, y, hy⟩ := hV i hi
    obtain ⟨y0, y1, y2, n', _, hl, g0, g1, g2⟩ := trod_struct3 Try.underlying158 hy
    have c0 : Try.prog.cellsOf 30 = 1 := by kernel_rfl
    have c1 : Try.prog.cellsOf 156 = 2 := by kernel_rfl
    have c2 : Try.prog.cellsOf 3 = 1 := by kernel_rfl
    have e4 : (List.range 4).map (V i) = [V i 0, V i 1, V i 2, V i 3] := rfl
    dsimp only at g0 g1 g2
    rw [e4, c0] at g0
    rw [e4, c1] at g1
    rw [e4, c2] at g2
    simp only [List.drop_succ_cons, List.drop_zero, List.take_succ_cons, List.take_zero] at g0 g1 g2
    obtain ⟨pA, pn, pc, hs⟩ := slice_shapeV Try.underlying30 g0
    simp at hs
    rw [hs] at g0
    obtain ⟨vl, hl2, hn, hc, hrd, _⟩ := open_is Try.underlying30 (by kernel_rfl) Try.underlying3 g0
    obtain ⟨z3, h3, _, w3⟩ := DataW.trod_int Try.underlying3 g2
    obtain ⟨u0, u1, n3, _, _, k0, k1⟩ := trod_struct2 Try.underlying156 g1
    dsimp only at k0 k1
    rw [c2] at k0 k1
    simp only [List.drop_succ_cons, List.drop_zero, List.take_succ_cons, List.take_zero] at k0 k1
    obtain ⟨z1, h1, _, w1⟩ := DataW.trod_int Try.underlying3 k0
    obtain ⟨z2, h2, _, w2⟩ := DataW.trod_int Try.underlying3 k1
    simp at h1 h2 h3
    exact ⟨⟨pA, pn, pc, vl, z1, z2, z3⟩, by rw [e4, hs, h1, h2, h3]; rfl, ⟨hrd, hl2, hn, hc, w1, w2, w3⟩⟩
  obtain ⟨Z, hZ⟩ := choose_lt (α := Ov) (n := n) (p := fun i z => (List.range 4).map (V i) = Ov.cs z ∧ OvOk w w.heap.size z) key
  refine ⟨(List.range n).map Z, ?_, by simp, hcap.1, hcap.2, ?_, Nat.le_refl _⟩
  · have e : ((List.range n).flatMap fun i => (List.range 4).map (V i)) = ovCs ((List.range n).map Z) := by
      unfold ovCs
      rw [List.flatMap_map]
      exact flatMap_congr_range fun i hi => (hZ i hi).1
    rw [← e]; exact hr
  · intro k hk
    simp only [List.mem_map, List.mem_range] at hk
    obtain ⟨j, hj, rfl⟩ := hk
    exact (hZ j hj).2
end
end Go.Proofs.Ytnidcmhfbkdioaa
