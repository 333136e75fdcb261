/-
  How a law's argument that is a world is read. No condition.
-/
import Derived.Test.YtnidcmhfbkdioaaMa
import Derived.Test.YtnidcmhfbkdioaaFo
import Derived.Deep.Strs
namespace Go.Proofs.Ytnidcmhfbkdioaa
open Go.ChangeShapes Go.WideShapes Go.ChangeAt Go.RowKit Go.Deep
set_option maxRecDepth 100000

instance : Inhabited Cm := ⟨⟨0, none, 0, 0, []⟩⟩
instance : Inhabited It := ⟨⟨0, 0, none, 0, 0, []⟩⟩
section
variable {H : Type} {enc : TypeId × Value → H} {P : Program} {w : World} {base : Nat} {spare : Nat → Bool} {held : Bool}

theorem slice_shape {t e : TypeId} {fuel : Nat} {cs : List Value} {x : DataW H × List MemPlace} (ht : P.underlying t = some (.slice e)) (h : DataW.trod enc P w base spare held fuel t cs = some x) :
    ∃ A n c, cs = [.slice A n c] := by
  rcases DataW.trod_slice ht h with ⟨hcs, _⟩ | ⟨a, len, cap, _, _, _, _, hcs, _⟩
  · exact ⟨_, _, _, hcs⟩
  · exact ⟨_, _, _, hcs⟩

/-- A slice of fields. -/
theorem open_fds {t e : TypeId} {f0 f1 f2 : Field} {fuel : Nat} {A : Option Addr} {n c : Nat} {x : DataW H × List MemPlace} (ht : P.underlying t = some (.slice e)) (he : P.underlying e = some (.struct #[f0, f1, f2])) (hone : oneCellFields P #[f0, f1, f2] = true)
    (hsz : P.cellsOf e = 3) (k0 : P.underlying f0.type = some .string) (k1 : P.underlying f1.type = some (.int .i64)) (k2 : P.underlying f2.type = some (.int .i64)) (h : DataW.trod enc P w base spare held fuel t [.slice A n c] = some x) :
    ∃ l : List Fd, n = l.length ∧ Rd w w.heap.size 3 A n (fdCs l) := by
  obtain ⟨hm, V, hr, hV⟩ := open_cells ht hsz (by omega) h
  have key : ∀ i, i < n → ∃ z : ByteArray × Int × Int, (List.range 3).map (V i) = Fd.cs ⟨z.1, z.2.1, z.2.2⟩ := by
    intro i hi
    obtain ⟨m, y, hy⟩ := hV i hi
    obtain ⟨xs, n', _, hx, _, hlen, hg⟩ := DataW.trod_struct he hy
    obtain ⟨o0, c0⟩ := hone_of hone 0 f0 rfl
    obtain ⟨o1, c1⟩ := hone_of hone 1 f1 rfl
    obtain ⟨o2, c2⟩ := hone_of hone 2 f2 rfl
    have g0 := hg 0 f0 rfl
    have g1 := hg 1 f1 rfl
    have g2 := hg 2 f2 rfl
    simp at hlen
    rw [o0, c0, List.getElem?_eq_getElem (by omega)] at g0
    rw [o1, c1, List.getElem?_eq_getElem (by omega)] at g1
    rw [o2, c2, List.getElem?_eq_getElem (by omega)] at g2
    have e3 : (List.range 3).map (V i) = [V i 0, V i 1, V i 2] := rfl
    rw [e3] at g0 g1 g2
    obtain ⟨z0, h0, _, _⟩ := DataW.trod_string k0 g0
    obtain ⟨z1, h1, _, w1⟩ := DataW.trod_int k1 g1
    obtain ⟨z2, h2, _, w2⟩ := DataW.trod_int k2 g2
    simp at h0 h1 h2
    exact ⟨(z0, z1, z2), by rw [e3, h0, h1, h2]; rfl⟩
  obtain ⟨Z, hZ⟩ := choose_lt (α := ByteArray × Int × Int) (n := n) (p := fun i z => (List.range 3).map (V i) = Fd.cs ⟨z.1, z.2.1, z.2.2⟩) key
  refine ⟨(List.range n).map fun i => ⟨(Z i).1, (Z i).2.1, (Z i).2.2⟩, by simp, ?_⟩
  have e : ((List.range n).flatMap fun i => (List.range 3).map (V i)) = fdCs ((List.range n).map fun i => ⟨(Z i).1, (Z i).2.1, (Z i).2.2⟩) := by
    unfold fdCs
    rw [List.flatMap_map]
    exact flatMap_congr_range fun i hi => hZ i hi
  rw [← e]; exact hr

instance : Inhabited Kd := ⟨⟨ByteArray.empty, none, 0, 0, []⟩⟩

/-- A slice of kinds. -/
theorem open_kds {t e t2 e2 : TypeId} {f0 f1 g0 g1 g2 : Field} {fuel : Nat} {A : Option Addr} {n c : Nat} {x : DataW H × List MemPlace} (ht : P.underlying t = some (.slice e)) (he : P.underlying e = some (.struct #[f0, f1])) (hone : oneCellFields P #[f0, f1] = true)
    (hsz : P.cellsOf e = 2) (k0 : P.underlying f0.type = some .string) (k1 : f1.type = t2) (ht2 : P.underlying t2 = some (.slice e2)) (he2 : P.underlying e2 = some (.struct #[g0, g1, g2])) (hone2 : oneCellFields P #[g0, g1, g2] = true)
    (hsz2 : P.cellsOf e2 = 3) (q0 : P.underlying g0.type = some .string) (q1 : P.underlying g1.type = some (.int .i64)) (q2 : P.underlying g2.type = some (.int .i64))
    (h : DataW.trod enc P w base spare held fuel t [.slice A n c] = some x) :
    ∃ l : List Kd, KsOk w w.heap.size A n c l := by
  obtain ⟨hm, V, hr, hV⟩ := open_cells ht hsz (by omega) h
  have hcap := open_cap ht h
  have key : ∀ i, i < n → ∃ z : Kd, (List.range 2).map (V i) = Kd.cs z ∧ KdOk w w.heap.size z := by
    intro i hi
    obtain ⟨m, y, hy⟩ := hV i hi
    obtain ⟨xs, n', _, hx, _, hlen, hg⟩ := DataW.trod_struct he hy
    obtain ⟨o0, c0⟩ := hone_of hone 0 f0 rfl
    obtain ⟨o1, c1⟩ := hone_of hone 1 f1 rfl
    have g0 := hg 0 f0 rfl
    have g1 := hg 1 f1 rfl
    simp at hlen
    rw [o0, c0, List.getElem?_eq_getElem (by omega)] at g0
    rw [o1, c1, List.getElem?_eq_getElem (by omega)] at g1
    have e3 : (List.range 2).map (V i) = [V i 0, V i 1] := rfl
    rw [e3] at g0 g1
    obtain ⟨z0, h0, _, _⟩ := DataW.trod_string k0 g0
    simp at h0
    simp only [List.drop_succ_cons, List.drop_zero, List.take_succ_cons, List.take_zero] at g1
    rw [k1] at g1
    obtain ⟨A', n2, c2', hs⟩ : ∃ A' n2 c2', V i 1 = .slice A' n2 c2' := by
      rcases DataW.trod_slice ht2 g1 with ⟨hcs, _⟩ | ⟨a, len, cap, _, _, _, _, hcs, _⟩
      · simp at hcs; exact ⟨_, _, _, hcs⟩
      · simp at hcs; exact ⟨_, _, _, hcs⟩
    rw [hs] at g1
    obtain ⟨fl, hfl, hrd⟩ := open_fds ht2 he2 hone2 hsz2 q0 q1 q2 g1
    have hc2 := open_cap ht2 g1
    exact ⟨⟨z0, A', n2, c2', fl⟩, by rw [e3, h0, hs]; rfl, ⟨hrd, hfl, hc2.1, hc2.2⟩⟩
  obtain ⟨Z, hZ⟩ := choose_lt (α := Kd) (n := n) (p := fun i z => (List.range 2).map (V i) = Kd.cs z ∧ KdOk w w.heap.size z) key
  refine ⟨(List.range n).map Z, ?_, by simp, hcap.1, hcap.2, ?_, Nat.le_refl _⟩
  · have e : ((List.range n).flatMap fun i => (List.range 2).map (V i)) = kdCs ((List.range n).map Z) := by
      unfold kdCs
      rw [List.flatMap_map]
      exact flatMap_congr_range fun i hi => (hZ i hi).1
    rw [← e]; exact hr
  · intro k hk
    simp only [List.mem_map, List.mem_range] at hk
    obtain ⟨j, hj, rfl⟩ := hk
    exact (hZ j hj).2

/-- A slice of components. -/
theorem open_cms {t e t2 e2 : TypeId} {f0 f1 : Field} {fuel : Nat} {A : Option Addr} {n c : Nat} {x : DataW H × List MemPlace} (ht : P.underlying t = some (.slice e)) (he : P.underlying e = some (.struct #[f0, f1])) (hone : oneCellFields P #[f0, f1] = true)
    (hsz : P.cellsOf e = 2) (k0 : P.underlying f0.type = some (.int .i64)) (k1 : f1.type = t2) (ht2 : P.underlying t2 = some (.slice e2)) (he2 : P.underlying e2 = some (.int .i64)) (hsz2 : P.cellsOf e2 = 1)
    (h : DataW.trod enc P w base spare held fuel t [.slice A n c] = some x) :
    ∃ l : List Cm, CsOk w w.heap.size A n c l := by
  obtain ⟨hm, V, hr, hV⟩ := open_cells ht hsz (by omega) h
  have hcap := open_cap ht h
  have key : ∀ i, i < n → ∃ z : Cm, (List.range 2).map (V i) = Cm.cs z ∧ CmOk w w.heap.size z := by
    intro i hi
    obtain ⟨m, y, hy⟩ := hV i hi
    obtain ⟨xs, n', _, hx, _, hlen, hg⟩ := DataW.trod_struct he hy
    obtain ⟨o0, c0⟩ := hone_of hone 0 f0 rfl
    obtain ⟨o1, c1⟩ := hone_of hone 1 f1 rfl
    have g0 := hg 0 f0 rfl
    have g1 := hg 1 f1 rfl
    simp at hlen
    rw [o0, c0, List.getElem?_eq_getElem (by omega)] at g0
    rw [o1, c1, List.getElem?_eq_getElem (by omega)] at g1
    have e3 : (List.range 2).map (V i) = [V i 0, V i 1] := rfl
    rw [e3] at g0 g1
    obtain ⟨z0, h0, _, w0⟩ := DataW.trod_int k0 g0
    simp at h0
    simp only [List.drop_succ_cons, List.drop_zero, List.take_succ_cons, List.take_zero] at g1
    rw [k1] at g1
    obtain ⟨A', n2, c2', hs⟩ := slice_shape ht2 g1
    simp at hs
    rw [hs] at g1
    obtain ⟨vl, hl, hn, hc, hrd, _⟩ := open_is ht2 hsz2 he2 g1
    exact ⟨⟨z0, A', n2, c2', vl⟩, by rw [e3, h0, hs]; rfl, ⟨hrd, hl, hn, hc, w0⟩⟩
  obtain ⟨Z, hZ⟩ := choose_lt (α := Cm) (n := n) (p := fun i z => (List.range 2).map (V i) = Cm.cs z ∧ CmOk w w.heap.size z) key
  refine ⟨(List.range n).map Z, ?_, by simp, hcap.1, hcap.2, ?_, Nat.le_refl _⟩
  · have e : ((List.range n).flatMap fun i => (List.range 2).map (V i)) = cmCs ((List.range n).map Z) := by
      unfold cmCs
      rw [List.flatMap_map]
      exact flatMap_congr_range fun i hi => (hZ i hi).1
    rw [← e]; exact hr
  · intro k hk
    simp only [List.mem_map, List.mem_range] at hk
    obtain ⟨j, hj, rfl⟩ := hk
    exact (hZ j hj).2

/-- A slice of entities. -/
theorem open_its {t e t0 t2 e2 t3 e3 : TypeId} {f0 f1 g0 g1 q0 q1 : Field} {fuel : Nat} {A : Option Addr} {n c : Nat} {x : DataW H × List MemPlace} (ht : P.underlying t = some (.slice e)) (he : P.underlying e = some (.struct #[f0, f1]))
    (hsz : P.cellsOf e = 3) (o0 : f0.offset = 0) (o1 : f1.offset = 2) (k0 : f0.type = t0) (k1 : f1.type = t2) (c0 : P.cellsOf t0 = 2) (c1 : P.cellsOf t2 = 1)
    (he0 : P.underlying t0 = some (.struct #[g0, g1])) (hone0 : oneCellFields P #[g0, g1] = true) (p0 : P.underlying g0.type = some (.int .i64)) (p1 : P.underlying g1.type = some (.int .i64))
    (ht2 : P.underlying t2 = some (.slice e2)) (he2 : P.underlying e2 = some (.struct #[q0, q1])) (hone2 : oneCellFields P #[q0, q1] = true)
    (hsz2 : P.cellsOf e2 = 2) (r0 : P.underlying q0.type = some (.int .i64)) (r1 : q1.type = t3) (ht3 : P.underlying t3 = some (.slice e3)) (he3 : P.underlying e3 = some (.int .i64)) (hsz3 : P.cellsOf e3 = 1)
    (h : DataW.trod enc P w base spare held fuel t [.slice A n c] = some x) :
    ∃ l : List It, IsOk w w.heap.size A n c l := by
  obtain ⟨hm, V, hr, hV⟩ := open_cells ht hsz (by omega) h
  have hcap := open_cap ht h
  have key : ∀ i, i < n → ∃ z : It, (List.range 3).map (V i) = It.cs z ∧ ItOk w w.heap.size z := by
    intro i hi
    obtain ⟨m, y, hy⟩ := hV i hi
    obtain ⟨y0, y1, n', _, _, g0, g1⟩ := trod_struct2 he hy
    have e4 : (List.range 3).map (V i) = [V i 0, V i 1, V i 2] := rfl
    rw [e4, o0, k0, c0] at g0
    rw [e4, o1, k1, c1] at g1
    simp only [List.drop_succ_cons, List.drop_zero, List.take_succ_cons, List.take_zero] at g0 g1
    obtain ⟨A', n2, c2', hs⟩ := slice_shape ht2 g1
    simp at hs
    rw [hs] at g1
    obtain ⟨cl, hcl⟩ := open_cms ht2 he2 hone2 hsz2 r0 r1 ht3 he3 hsz3 g1
    obtain ⟨xs, n3, _, hx, _, hlen, hg⟩ := DataW.trod_struct he0 g0
    obtain ⟨a0, b0⟩ := hone_of hone0 0 _ rfl
    obtain ⟨a1, b1⟩ := hone_of hone0 1 _ rfl
    have u0 := hg 0 _ rfl
    have u1 := hg 1 _ rfl
    simp at hlen
    rw [a0, b0, List.getElem?_eq_getElem (by omega)] at u0
    rw [a1, b1, List.getElem?_eq_getElem (by omega)] at u1
    obtain ⟨z0, h0, _, w0⟩ := DataW.trod_int p0 u0
    obtain ⟨z1, h1, _, w1⟩ := DataW.trod_int p1 u1
    simp at h0 h1
    exact ⟨⟨z0, z1, A', n2, c2', cl⟩, by rw [e4, h0, h1, hs]; rfl, ⟨hcl, w0, w1⟩⟩
  obtain ⟨Z, hZ⟩ := choose_lt (α := It) (n := n) (p := fun i z => (List.range 3).map (V i) = It.cs z ∧ ItOk w w.heap.size z) key
  refine ⟨(List.range n).map Z, ?_, by simp, hcap.1, hcap.2, ?_, Nat.le_refl _⟩
  · have e : ((List.range n).flatMap fun i => (List.range 3).map (V i)) = itCs ((List.range n).map Z) := by
      unfold itCs
      rw [List.flatMap_map]
      exact flatMap_congr_range fun i hi => (hZ i hi).1
    rw [← e]; exact hr
  · intro k hk
    simp only [List.mem_map, List.mem_range] at hk
    obtain ⟨j, hj, rfl⟩ := hk
    exact (hZ j hj).2
end

section
variable {H : Type} {enc : TypeId × Value → H} {w : World} {base : Nat} {spare : Nat → Bool} {held : Bool}
/-- A world. -/
theorem open_wd {fuel : Nat} {cs : List Value} {x : DataW H × List MemPlace} (h : DataW.trod enc Try.prog w base spare held fuel 52 cs = some x) :
    ∃ y : Wd, cs = [.slice y.kA y.kn y.kc, .slice y.gA y.gn y.gc, .slice y.iA y.im y.ic] ∧ WdOk w w.heap.size y := by
  obtain ⟨y0, y1, y2, n, _, hl, g0, g1, g2⟩ := trod_struct3 Try.underlying52 h
  have e3 : Try.prog.cellsOf 52 = 3 := by kernel_rfl
  have c0 : Try.prog.cellsOf 22 = 1 := by kernel_rfl
  have c1 : Try.prog.cellsOf 30 = 1 := by kernel_rfl
  have c2 : Try.prog.cellsOf 50 = 1 := by kernel_rfl
  dsimp only at g0 g1 g2
  rw [e3] at hl
  rw [c0] at g0
  rw [c1] at g1
  rw [c2] at g2
  match cs, hl with
  | [a0, a1, a2], _ =>
    simp only [List.drop_succ_cons, List.drop_zero, List.take_succ_cons, List.take_zero] at g0 g1 g2
    obtain ⟨kA, kn, kc, h0⟩ := slice_shape Try.underlying22 g0
    obtain ⟨gA, gn, gc, h1⟩ := slice_shape Try.underlying30 g1
    obtain ⟨iA, im, ic, h2⟩ := slice_shape Try.underlying50 g2
    simp at h0 h1 h2
    subst h0
    subst h1
    subst h2
    obtain ⟨ks, hks⟩ := open_kds Try.underlying22 Try.underlying63 (by kernel_rfl) (by kernel_rfl) Try.underlying9 rfl Try.underlying61 Try.underlying66 (by kernel_rfl) (by kernel_rfl) Try.underlying9 Try.underlying3 Try.underlying3 g0
    obtain ⟨gs, l1, l2, l3, l4, l5⟩ := open_is Try.underlying30 (by kernel_rfl) Try.underlying3 g1
    obtain ⟨its, hits⟩ := open_its Try.underlying50 Try.underlying147 (by kernel_rfl) rfl rfl rfl rfl (by kernel_rfl) (by kernel_rfl) Try.underlying128 (by kernel_rfl) Try.underlying3 Try.underlying3 Try.underlying38 Try.underlying166 (by kernel_rfl) (by kernel_rfl) Try.underlying3 rfl Try.underlying30 Try.underlying3 (by kernel_rfl) g2
    exact ⟨⟨kA, kn, kc, ks, gA, gn, gc, gs, iA, im, ic, its⟩, rfl, ⟨hks, ⟨l4, l1, l2, l3, l5, Nat.le_refl _⟩, hits⟩⟩
end

end Go.Proofs.Ytnidcmhfbkdioaa
