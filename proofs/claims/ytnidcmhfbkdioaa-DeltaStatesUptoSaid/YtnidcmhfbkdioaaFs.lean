/-
  How a law's argument that is a state is read, with what its bulk bounds. No condition.
-/
import Derived.Test.YtnidcmhfbkdioaaFw
import Derived.Test.YtnidcmhfbkdioaaAd
import Derived.Test.YtnidcmhfbkdioaaRows
namespace Go.Proofs.Ytnidcmhfbkdioaa
open Go.ChangeShapes Go.WideShapes Go.ChangeAt Go.RowKit Go.Deep
set_option maxRecDepth 100000

instance : Inhabited Fd := ⟨⟨ByteArray.empty, 0, 0⟩⟩
instance : Inhabited Mdm := ⟨⟨0, 0, 0, none, 0, 0, []⟩⟩
theorem wf_i64 {z : Int} (h : (Lit.int .i64 z).wf = true) : -9223372036854775808 ≤ z ∧ z ≤ 9223372036854775807 := by
  simp [Lit.wf, IntKind.min, IntKind.max, IntKind.signed, IntKind.bits] at h
  omega
theorem bulk_part {H : Type} {d : DataW H} {l : List (DataW H)} (h : d ∈ l) : Rows.uptoBulk d ≤ Rows.uptoBulkAll l := by
  induction l with
  | nil => cases h
  | cons x r ih =>
    simp only [Rows.uptoBulkAll]
    rcases List.mem_cons.1 h with e | e
    · subst e; omega
    · have := ih e; omega
theorem bulk_sum {H α : Type} (D : Nat → DataW H) (Z : Nat → α) (g : α → Nat) : ∀ l : List Nat, (∀ i ∈ l, g (Z i) ≤ Rows.uptoBulk (D i)) → ((l.map Z).map g).sum ≤ Rows.uptoBulkAll (l.map D)
  | [], _ => by simp [Rows.uptoBulkAll]
  | i :: l, h => by
    have h1 := bulk_sum D Z g l fun j hj => h j (List.mem_cons_of_mem _ hj)
    have h2 := h i List.mem_cons_self
    simp only [List.map_cons, List.sum_cons, Rows.uptoBulkAll]
    omega
theorem rows_get (n size : Nat) (V : Nat → Nat → Value) (i j : Nat) (hi : i < n) (hj : j < size) : ((List.range n).flatMap fun i => (List.range size).map (V i))[i * size + j]? = some (V i j) := by
  have gen : ∀ (q n : Nat) (F : Nat → Nat → Value), q < n → ∀ r, r < size → ((List.range n).flatMap fun i => (List.range size).map (F i))[q * size + r]? = some (F q r) := by
    intro q
    induction q with
    | zero =>
      intro n F hq r hr
      obtain ⟨n, rfl⟩ : ∃ n', n = n' + 1 := ⟨n - 1, by omega⟩
      rw [List.range_succ_eq_map, List.flatMap_cons, List.getElem?_append_left (by simp; omega)]
      simp [hr]
    | succ q ih =>
      intro n F hq r hr
      obtain ⟨n, rfl⟩ : ∃ n', n = n' + 1 := ⟨n - 1, by omega⟩
      rw [List.range_succ_eq_map, List.flatMap_cons, List.getElem?_append_right (by simp; rw [Nat.add_mul]; omega), List.flatMap_map]
      have := ih n (fun i => F (i + 1)) (by omega) r hr
      rw [← this]
      congr 1
      simp; rw [Nat.add_mul]; omega
  exact gen i n V hi j hj
theorem sum_len {α : Type} (f : α → List Int) (l : List α) : (l.flatMap f).length = (l.map fun z => (f z).length).sum := by
  induction l with
  | nil => rfl
  | cons a l ih => simp [ih]
theorem sum_one {α : Type} (l : List α) : (l.map fun _ => 1).sum = l.length := by
  induction l with
  | nil => rfl
  | cons a l ih => simp only [List.map_cons, List.sum_cons, List.length_cons, ih]; omega
theorem r_app {a b : List Int} (ha : i64r a) (hb : i64r b) : i64r (a ++ b) := fun x hx => (List.mem_append.1 hx).elim (ha x) (hb x)
theorem r_flat {α : Type} {f : α → List Int} {l : List α} (h : ∀ a ∈ l, i64r (f a)) : i64r (l.flatMap f) := fun x hx => by
  obtain ⟨a, ha, h1⟩ := List.mem_flatMap.1 hx
  exact h a ha x h1
theorem r_nil : i64r [] := fun x hx => by cases hx
theorem r_cons {x : Int} {l : List Int} (h1 : -9223372036854775808 ≤ x ∧ x ≤ 9223372036854775807) (h : i64r l) : i64r (x :: l) := fun y hy => by
  rcases List.mem_cons.1 hy with rfl | h2
  · exact h1
  · exact h y h2
theorem r_text {s : ByteArray} (h : s.size ≤ 1048576) : i64r (textF s) :=
  r_cons ⟨by omega, by omega⟩ fun x hx => by have := byteL_rng s x hx; omega
theorem textF_len (s : ByteArray) : (textF s).length = s.size + 1 := by unfold textF; simp [byteL_length]

section
variable {H : Type} {enc : TypeId × Value → H} {P : Program} {w : World} {base : Nat} {spare : Nat → Bool} {held : Bool}
/-- A slice of structs, each read by a given reading, with the bulk. -/
theorem open_rows {α : Type} [Inhabited α] {t e : TypeId} {size : Nat} {f : α → List Value} {Q : α → Prop} {g : α → Nat} {K : Nat} (ht : P.underlying t = some (.slice e)) (hsz : P.cellsOf e = size) (h0 : 0 < size)
    (hel : ∀ m cs d p, DataW.trod enc P w base spare held m e cs = some (d, p) → Rows.uptoBulk d ≤ K → ∃ z, cs = f z ∧ Q z ∧ g z ≤ Rows.uptoBulk d)
    {fuel : Nat} {A : Option Addr} {n c : Nat} {d : DataW H} {p : List MemPlace} (h : DataW.trod enc P w base spare held fuel t [.slice A n c] = some (d, p)) (hK : Rows.uptoBulk d ≤ K) :
    ∃ l : List α, n = l.length ∧ n ≤ c ∧ c ≤ 9223372036854775807 ∧ Rd w w.heap.size size A n (l.flatMap f) ∧ (∀ z ∈ l, Q z) ∧ 1 + (l.map g).sum ≤ Rows.uptoBulk d := by
  obtain ⟨hm, V, hr, hV⟩ := open_cells ht hsz h0 h
  have hcap := open_cap ht h
  rcases open_slice ht h with ⟨hcs, hx⟩ | ⟨a, len, cap, m, q, D, Pl, hcs, _, hle, hmx, hmm, hx, hi⟩
  · simp at hcs
    obtain ⟨rfl, rfl, rfl⟩ := hcs
    injection hx with hx _
    exact ⟨[], rfl, by omega, by omega, Rd.nil_ _, fun z hz => (List.not_mem_nil hz).elim, by rw [hx]; simp [Rows.uptoBulk]⟩
  · simp at hcs
    obtain ⟨rfl, rfl, rfl⟩ := hcs
    injection hx with hx _
    have hnm : n ≤ m := by rw [hmm]; split <;> omega
    have hb : Rows.uptoBulk d = Rows.uptoBulkAll ((List.range n).map D) + Rows.uptoBulkAll ((List.range (m - n)).map fun j => D (n + j)) + 1 := by rw [hx]; simp only [Rows.uptoBulk]
    have key : ∀ i, i < n → ∃ z, (List.range size).map (V i) = f z ∧ Q z ∧ g z ≤ Rows.uptoBulk (D i) := by
      intro i hin
      obtain ⟨cs', hc, htr⟩ := hi i (by omega)
      rw [hsz] at hc
      obtain ⟨_, hcl, hat⟩ := World.cells?_some hc
      have hD : Rows.uptoBulk (D i) ≤ Rows.uptoBulkAll ((List.range n).map D) := bulk_part (List.mem_map.2 ⟨i, List.mem_range.2 hin, rfl⟩)
      obtain ⟨z, h1, h2, h3⟩ := hel _ _ _ _ htr (by omega)
      refine ⟨z, ?_, h2, h3⟩
      rw [← h1]
      obtain ⟨b, o, hA, hbl, hce⟩ := hr.2 (by omega)
      injection hA with hA
      subst hA
      apply List.ext_getElem?
      intro j
      by_cases hj : j < size
      · have h4 := hat j hj
        rw [add_add, Addr.add_lit] at h4
        rw [hce (i * size + j) (V i j) (rows_get n size V i j hin hj)] at h4
        rw [← h4]
        simp [hj]
      · simp [hj, List.getElem?_eq_none (show cs'.length ≤ j by omega)]
    obtain ⟨Z, hZ⟩ := choose_lt (α := α) (n := n) (p := fun i z => (List.range size).map (V i) = f z ∧ Q z ∧ g z ≤ Rows.uptoBulk (D i)) key
    refine ⟨(List.range n).map Z, by simp, hcap.1, hcap.2, ?_, ?_, ?_⟩
    · have e : ((List.range n).flatMap fun i => (List.range size).map (V i)) = ((List.range n).map Z).flatMap f := by
        rw [List.flatMap_map]
        exact flatMap_congr_range fun i hi => (hZ i hi).1
      rw [← e]; exact hr
    · intro z hz
      obtain ⟨i, hi1, rfl⟩ := List.mem_map.1 hz
      exact (hZ i (List.mem_range.1 hi1)).2.1
    · have := bulk_sum D Z g (List.range n) fun i hi1 => (hZ i (List.mem_range.1 hi1)).2.2
      omega
/-- A slice of numbers. -/
theorem open_nums {t e : TypeId} (ht : P.underlying t = some (.slice e)) (hsz : P.cellsOf e = 1) (he : P.underlying e = some (.int .i64)) {fuel : Nat} {A : Option Addr} {n c : Nat} {d : DataW H} {p : List MemPlace}
    (h : DataW.trod enc P w base spare held fuel t [.slice A n c] = some (d, p)) :
    ∃ l : List Int, n = l.length ∧ n ≤ c ∧ c ≤ 9223372036854775807 ∧ Rd w w.heap.size 1 A n (l.map (Value.int .i64)) ∧ (∀ i ∈ l, (Lit.int .i64 i).wf = true) ∧ 1 + l.length ≤ Rows.uptoBulk d := by
  obtain ⟨l, h1, h2, h3, h4, h5, h6⟩ := open_rows (α := Int) (f := fun z => [Value.int .i64 z]) (Q := fun z => (Lit.int .i64 z).wf = true) (g := fun _ => 1) (K := Rows.uptoBulk d) ht hsz (by omega) (fun m cs d p hh _ => by
    obtain ⟨z, e1, e2, e3⟩ := DataW.trod_int he hh
    injection e2 with e2 _
    exact ⟨z, e1, e3, by rw [e2]; simp [Rows.uptoBulk]⟩) h (Nat.le_refl _)
  refine ⟨l, h1, h2, h3, ?_, h5, by rw [sum_one] at h6; exact h6⟩
  have e : (l.flatMap fun z => [Value.int .i64 z]) = l.map (Value.int .i64) := by
    clear h1 h4 h5 h6 h
    induction l with
    | nil => rfl
    | cons a l ih => simp [ih]
  rw [← e]; exact h4
end
theorem r_wf {l : List Int} (h : ∀ i ∈ l, (Lit.int .i64 i).wf = true) : i64r l := fun x hx => wf_i64 (h x hx)
theorem flat_le {α : Type} (f : α → List Int) (l : List α) (h : ∀ z ∈ l, 1 ≤ (f z).length) : l.length ≤ (l.flatMap f).length := by
  induction l with
  | nil => exact Nat.le_refl _
  | cons a l ih =>
    have h1 := ih fun z hz => h z (List.mem_cons_of_mem _ hz)
    have h2 := h a List.mem_cons_self
    simp only [List.flatMap_cons, List.length_append, List.length_cons]
    omega
section
variable {H : Type} {enc : TypeId × Value → H} {w : World} {base : Nat} {spare : Nat → Bool} {held : Bool}
/-- An entity. -/
theorem el_ent {m : Nat} {cs : List Value} {d : DataW H} {p : List MemPlace} (h : DataW.trod enc Try.prog w base spare held m 128 cs = some (d, p)) (_ : Rows.uptoBulk d ≤ 1048576) :
    ∃ a b : Int, cs = [.int .i64 a, .int .i64 b] ∧ (Lit.int .i64 a).wf = true ∧ (Lit.int .i64 b).wf = true ∧ 3 ≤ Rows.uptoBulk d := by
  obtain ⟨xs, n', _, hx, hl, hlen, hf⟩ := DataW.trod_struct Try.underlying128 h
  have cT : Try.prog.cellsOf 128 = 2 := by kernel_rfl
  have c3 : Try.prog.cellsOf 3 = 1 := by kernel_rfl
  rw [cT] at hl
  have g0 : DataW.trod enc Try.prog w base spare held n' 3 ((cs.drop 0).take (Try.prog.cellsOf 3)) = xs[0]? := hf 0 _ rfl
  rw [c3] at g0
  have g1 : DataW.trod enc Try.prog w base spare held n' 3 ((cs.drop 1).take (Try.prog.cellsOf 3)) = xs[1]? := hf 1 _ rfl
  rw [c3] at g1
  match xs, hlen with
  | [(y0, p0), (y1, p1)], _ =>
    match cs, hl with
    | [a0, a1], _ =>
      injection hx with hx _
      simp only [List.map_cons, List.map_nil] at hx
      simp only [List.drop_succ_cons, List.drop_zero, List.take_succ_cons, List.take_zero, List.getElem?_cons_zero, List.getElem?_cons_succ] at g0 g1
      have hb : Rows.uptoBulk d = Rows.uptoBulk y0 + Rows.uptoBulk y1 + 1 := by rw [hx]; simp only [Rows.uptoBulk, Rows.uptoBulkAll]; omega
      obtain ⟨z0, h0, b0, w0⟩ := DataW.trod_int Try.underlying3 g0
      injection b0 with b0 _
      simp at h0
      subst h0
      have b0' : Rows.uptoBulk y0 = 1 := by rw [b0]; simp [Rows.uptoBulk]
      have q0 := wf_i64 w0
      obtain ⟨z1, h1, b1, w1⟩ := DataW.trod_int Try.underlying3 g1
      injection b1 with b1 _
      simp at h1
      subst h1
      have b1' : Rows.uptoBulk y1 = 1 := by rw [b1]; simp [Rows.uptoBulk]
      have q1 := wf_i64 w1
      exact ⟨z0, z1, rfl, w0, w1, by omega⟩
/-- A vector. -/
theorem el_vec {m : Nat} {cs : List Value} {d : DataW H} {p : List MemPlace} (h : DataW.trod enc Try.prog w base spare held m 105 cs = some (d, p)) (_ : Rows.uptoBulk d ≤ 1048576) :
    ∃ a b : Int, cs = [.int .i64 a, .int .i64 b] ∧ (Lit.int .i64 a).wf = true ∧ (Lit.int .i64 b).wf = true ∧ 3 ≤ Rows.uptoBulk d := by
  obtain ⟨xs, n', _, hx, hl, hlen, hf⟩ := DataW.trod_struct Try.underlying105 h
  have cT : Try.prog.cellsOf 105 = 2 := by kernel_rfl
  have c3 : Try.prog.cellsOf 3 = 1 := by kernel_rfl
  rw [cT] at hl
  have g0 : DataW.trod enc Try.prog w base spare held n' 3 ((cs.drop 0).take (Try.prog.cellsOf 3)) = xs[0]? := hf 0 _ rfl
  rw [c3] at g0
  have g1 : DataW.trod enc Try.prog w base spare held n' 3 ((cs.drop 1).take (Try.prog.cellsOf 3)) = xs[1]? := hf 1 _ rfl
  rw [c3] at g1
  match xs, hlen with
  | [(y0, p0), (y1, p1)], _ =>
    match cs, hl with
    | [a0, a1], _ =>
      injection hx with hx _
      simp only [List.map_cons, List.map_nil] at hx
      simp only [List.drop_succ_cons, List.drop_zero, List.take_succ_cons, List.take_zero, List.getElem?_cons_zero, List.getElem?_cons_succ] at g0 g1
      have hb : Rows.uptoBulk d = Rows.uptoBulk y0 + Rows.uptoBulk y1 + 1 := by rw [hx]; simp only [Rows.uptoBulk, Rows.uptoBulkAll]; omega
      obtain ⟨z0, h0, b0, w0⟩ := DataW.trod_int Try.underlying3 g0
      injection b0 with b0 _
      simp at h0
      subst h0
      have b0' : Rows.uptoBulk y0 = 1 := by rw [b0]; simp [Rows.uptoBulk]
      have q0 := wf_i64 w0
      obtain ⟨z1, h1, b1, w1⟩ := DataW.trod_int Try.underlying3 g1
      injection b1 with b1 _
      simp at h1
      subst h1
      have b1' : Rows.uptoBulk y1 = 1 := by rw [b1]; simp [Rows.uptoBulk]
      have q1 := wf_i64 w1
      exact ⟨z0, z1, rfl, w0, w1, by omega⟩
/-- A field. -/
theorem el_fd {m : Nat} {cs : List Value} {d : DataW H} {p : List MemPlace} (h : DataW.trod enc Try.prog w base spare held m 66 cs = some (d, p)) (hK : Rows.uptoBulk d ≤ 1048576) :
    ∃ z : Fd, cs = Fd.cs z ∧ i64r (fdN z) ∧ (fdN z).length ≤ Rows.uptoBulk d := by
  obtain ⟨xs, n', _, hx, hl, hlen, hf⟩ := DataW.trod_struct Try.underlying66 h
  have cT : Try.prog.cellsOf 66 = 3 := by kernel_rfl
  have c3 : Try.prog.cellsOf 3 = 1 := by kernel_rfl
  have c9 : Try.prog.cellsOf 9 = 1 := by kernel_rfl
  rw [cT] at hl
  have g0 : DataW.trod enc Try.prog w base spare held n' 9 ((cs.drop 0).take (Try.prog.cellsOf 9)) = xs[0]? := hf 0 _ rfl
  rw [c9] at g0
  have g1 : DataW.trod enc Try.prog w base spare held n' 3 ((cs.drop 1).take (Try.prog.cellsOf 3)) = xs[1]? := hf 1 _ rfl
  rw [c3] at g1
  have g2 : DataW.trod enc Try.prog w base spare held n' 3 ((cs.drop 2).take (Try.prog.cellsOf 3)) = xs[2]? := hf 2 _ rfl
  rw [c3] at g2
  match xs, hlen with
  | [(y0, p0), (y1, p1), (y2, p2)], _ =>
    match cs, hl with
    | [a0, a1, a2], _ =>
      injection hx with hx _
      simp only [List.map_cons, List.map_nil] at hx
      simp only [List.drop_succ_cons, List.drop_zero, List.take_succ_cons, List.take_zero, List.getElem?_cons_zero, List.getElem?_cons_succ] at g0 g1 g2
      have hb : Rows.uptoBulk d = Rows.uptoBulk y0 + Rows.uptoBulk y1 + Rows.uptoBulk y2 + 1 := by rw [hx]; simp only [Rows.uptoBulk, Rows.uptoBulkAll]; omega
      obtain ⟨z0, h0, b0, _⟩ := DataW.trod_string Try.underlying9 g0
      injection b0 with b0 _
      simp at h0
      subst h0
      have b0' : Rows.uptoBulk y0 = z0.size + 1 := by rw [b0]; simp [Rows.uptoBulk]
      obtain ⟨z1, h1, b1, w1⟩ := DataW.trod_int Try.underlying3 g1
      injection b1 with b1 _
      simp at h1
      subst h1
      have b1' : Rows.uptoBulk y1 = 1 := by rw [b1]; simp [Rows.uptoBulk]
      have q1 := wf_i64 w1
      obtain ⟨z2, h2, b2, w2⟩ := DataW.trod_int Try.underlying3 g2
      injection b2 with b2 _
      simp at h2
      subst h2
      have b2' : Rows.uptoBulk y2 = 1 := by rw [b2]; simp [Rows.uptoBulk]
      have q2 := wf_i64 w2
      exact ⟨⟨z0, z1, z2⟩, rfl, r_app (r_text (s := z0) (by omega)) (r_cons q1 (r_cons q2 r_nil)), by unfold fdN; rw [List.length_append, textF_len]; simp only [List.length_cons, List.length_nil]; omega⟩
/-- A kind. -/
theorem el_kd {m : Nat} {cs : List Value} {d : DataW H} {p : List MemPlace} (h : DataW.trod enc Try.prog w base spare held m 63 cs = some (d, p)) (hK : Rows.uptoBulk d ≤ 1048576) :
    ∃ z : Kd, cs = Kd.cs z ∧ (KdOk w w.heap.size z ∧ i64r (kdN z.p)) ∧ (kdN z.p).length ≤ Rows.uptoBulk d := by
  obtain ⟨xs, n', _, hx, hl, hlen, hf⟩ := DataW.trod_struct Try.underlying63 h
  have cT : Try.prog.cellsOf 63 = 2 := by kernel_rfl
  have c9 : Try.prog.cellsOf 9 = 1 := by kernel_rfl
  have c61 : Try.prog.cellsOf 61 = 1 := by kernel_rfl
  rw [cT] at hl
  have g0 : DataW.trod enc Try.prog w base spare held n' 9 ((cs.drop 0).take (Try.prog.cellsOf 9)) = xs[0]? := hf 0 _ rfl
  rw [c9] at g0
  have g1 : DataW.trod enc Try.prog w base spare held n' 61 ((cs.drop 1).take (Try.prog.cellsOf 61)) = xs[1]? := hf 1 _ rfl
  rw [c61] at g1
  match xs, hlen with
  | [(y0, p0), (y1, p1)], _ =>
    match cs, hl with
    | [a0, a1], _ =>
      injection hx with hx _
      simp only [List.map_cons, List.map_nil] at hx
      simp only [List.drop_succ_cons, List.drop_zero, List.take_succ_cons, List.take_zero, List.getElem?_cons_zero, List.getElem?_cons_succ] at g0 g1
      have hb : Rows.uptoBulk d = Rows.uptoBulk y0 + Rows.uptoBulk y1 + 1 := by rw [hx]; simp only [Rows.uptoBulk, Rows.uptoBulkAll]; omega
      obtain ⟨z0, h0, b0, _⟩ := DataW.trod_string Try.underlying9 g0
      injection b0 with b0 _
      simp at h0
      subst h0
      have b0' : Rows.uptoBulk y0 = z0.size + 1 := by rw [b0]; simp [Rows.uptoBulk]
      obtain ⟨A1, n1, k1, h1⟩ := slice_shape Try.underlying61 g1
      simp at h1
      subst h1
      obtain ⟨l, l1, l2, l3, l4, l5, l6⟩ := open_rows (size := 3) (α := Fd) (f := Fd.cs) (Q := fun z => i64r (fdN z)) (g := fun z => (fdN z).length) (K := 1048576) Try.underlying61 (by kernel_rfl) (by omega) (fun _ _ _ _ => el_fd) g1 (by omega)
      rw [← sum_len] at l6
      have hle : l.length ≤ (l.flatMap fdN).length := flat_le fdN l fun z _ => by unfold fdN; simp
      exact ⟨⟨z0, A1, n1, k1, l⟩, rfl, ⟨⟨l4, l1, l2, l3⟩, r_app (r_app (r_text (s := z0) (by omega)) (r_cons ⟨by show -9223372036854775808 ≤ (l.length : Int); omega, by show (l.length : Int) ≤ 9223372036854775807; omega⟩ r_nil)) (r_flat l5)⟩, by
        show (textF z0 ++ [(l.length : Int)] ++ l.flatMap fdN).length ≤ _
        rw [List.length_append, List.length_append, textF_len]; simp only [List.length_cons, List.length_nil]; omega⟩
/-- A component. -/
theorem el_cm {m : Nat} {cs : List Value} {d : DataW H} {p : List MemPlace} (h : DataW.trod enc Try.prog w base spare held m 166 cs = some (d, p)) (hK : Rows.uptoBulk d ≤ 1048576) :
    ∃ z : Cm, cs = Cm.cs z ∧ (CmOk w w.heap.size z ∧ i64r (cmN z.p)) ∧ (cmN z.p).length ≤ Rows.uptoBulk d := by
  obtain ⟨xs, n', _, hx, hl, hlen, hf⟩ := DataW.trod_struct Try.underlying166 h
  have cT : Try.prog.cellsOf 166 = 2 := by kernel_rfl
  have c3 : Try.prog.cellsOf 3 = 1 := by kernel_rfl
  have c30 : Try.prog.cellsOf 30 = 1 := by kernel_rfl
  rw [cT] at hl
  have g0 : DataW.trod enc Try.prog w base spare held n' 3 ((cs.drop 0).take (Try.prog.cellsOf 3)) = xs[0]? := hf 0 _ rfl
  rw [c3] at g0
  have g1 : DataW.trod enc Try.prog w base spare held n' 30 ((cs.drop 1).take (Try.prog.cellsOf 30)) = xs[1]? := hf 1 _ rfl
  rw [c30] at g1
  match xs, hlen with
  | [(y0, p0), (y1, p1)], _ =>
    match cs, hl with
    | [a0, a1], _ =>
      injection hx with hx _
      simp only [List.map_cons, List.map_nil] at hx
      simp only [List.drop_succ_cons, List.drop_zero, List.take_succ_cons, List.take_zero, List.getElem?_cons_zero, List.getElem?_cons_succ] at g0 g1
      have hb : Rows.uptoBulk d = Rows.uptoBulk y0 + Rows.uptoBulk y1 + 1 := by rw [hx]; simp only [Rows.uptoBulk, Rows.uptoBulkAll]; omega
      obtain ⟨z0, h0, b0, w0⟩ := DataW.trod_int Try.underlying3 g0
      injection b0 with b0 _
      simp at h0
      subst h0
      have b0' : Rows.uptoBulk y0 = 1 := by rw [b0]; simp [Rows.uptoBulk]
      have q0 := wf_i64 w0
      obtain ⟨A1, n1, k1, h1⟩ := slice_shape Try.underlying30 g1
      simp at h1
      subst h1
      obtain ⟨l, l1, l2, l3, l4, l5, l6⟩ := open_nums Try.underlying30 (by kernel_rfl) Try.underlying3 g1
      exact ⟨⟨z0, A1, n1, k1, l⟩, rfl, ⟨⟨l4, l1, l2, l3, w0⟩, r_app (r_cons q0 (r_cons ⟨by show -9223372036854775808 ≤ (l.length : Int); omega, by show (l.length : Int) ≤ 9223372036854775807; omega⟩ r_nil)) (r_wf l5)⟩, by
        show ([z0, (l.length : Int)] ++ l).length ≤ _
        rw [List.length_append]; simp only [List.length_cons, List.length_nil]; omega⟩
/-- An item. -/
theorem el_it {m : Nat} {cs : List Value} {d : DataW H} {p : List MemPlace} (h : DataW.trod enc Try.prog w base spare held m 147 cs = some (d, p)) (hK : Rows.uptoBulk d ≤ 1048576) :
    ∃ z : It, cs = It.cs z ∧ (ItOk w w.heap.size z ∧ i64r (itN z.p)) ∧ (itN z.p).length ≤ Rows.uptoBulk d := by
  obtain ⟨xs, n', _, hx, hl, hlen, hf⟩ := DataW.trod_struct Try.underlying147 h
  have cT : Try.prog.cellsOf 147 = 3 := by kernel_rfl
  have c38 : Try.prog.cellsOf 38 = 1 := by kernel_rfl
  have c128 : Try.prog.cellsOf 128 = 2 := by kernel_rfl
  rw [cT] at hl
  have g0 : DataW.trod enc Try.prog w base spare held n' 128 ((cs.drop 0).take (Try.prog.cellsOf 128)) = xs[0]? := hf 0 _ rfl
  rw [c128] at g0
  have g1 : DataW.trod enc Try.prog w base spare held n' 38 ((cs.drop 2).take (Try.prog.cellsOf 38)) = xs[1]? := hf 1 _ rfl
  rw [c38] at g1
  match xs, hlen with
  | [(y0, p0), (y1, p1)], _ =>
    match cs, hl with
    | [a0, a1, a2], _ =>
      injection hx with hx _
      simp only [List.map_cons, List.map_nil] at hx
      simp only [List.drop_succ_cons, List.drop_zero, List.take_succ_cons, List.take_zero, List.getElem?_cons_zero, List.getElem?_cons_succ] at g0 g1
      have hb : Rows.uptoBulk d = Rows.uptoBulk y0 + Rows.uptoBulk y1 + 1 := by rw [hx]; simp only [Rows.uptoBulk, Rows.uptoBulkAll]; omega
      obtain ⟨z0, z1, h0, w0, w1, b0⟩ := el_ent g0 (by omega)
      simp at h0
      obtain ⟨rfl, rfl⟩ := h0
      obtain ⟨A1, n1, k1, h1⟩ := slice_shape Try.underlying38 g1
      simp at h1
      subst h1
      obtain ⟨l, l1, l2, l3, l4, l5, l6⟩ := open_rows (size := 2) (α := Cm) (f := Cm.cs) (Q := fun z => CmOk w w.heap.size z ∧ i64r (cmN z.p)) (g := fun z => (cmN z.p).length) (K := 1048576) Try.underlying38 (by kernel_rfl) (by omega) (fun _ _ _ _ => el_cm) g1 (by omega)
      rw [← sum_len (fun z : Cm => cmN z.p)] at l6
      have hle : l.length ≤ (l.flatMap fun z => cmN z.p).length := flat_le (fun z : Cm => cmN z.p) l fun z _ => by unfold cmN; simp
      have e : (l.map Cm.p).flatMap cmN = l.flatMap fun z => cmN z.p := List.flatMap_map ..
      exact ⟨⟨z0, z1, A1, n1, k1, l⟩, rfl, ⟨⟨⟨l4, l1, l2, l3, fun x hx => (l5 x hx).1, Nat.le_refl _⟩, w0, w1⟩, r_app (r_cons (wf_i64 w0) (r_cons (wf_i64 w1) (r_cons ⟨by show -9223372036854775808 ≤ ((l.map Cm.p).length : Int); omega, by show ((l.map Cm.p).length : Int) ≤ 9223372036854775807; rw [List.length_map]; omega⟩ r_nil))) (by show i64r ((l.map Cm.p).flatMap cmN); rw [e]; exact r_flat fun x hx => (l5 x hx).2)⟩, by
        show ([z0, z1, ((l.map Cm.p).length : Int)] ++ (l.map Cm.p).flatMap cmN).length ≤ _
        rw [List.length_append, e]; simp only [List.length_cons, List.length_nil]; omega⟩
/-- A world. -/
theorem el_wd {m : Nat} {cs : List Value} {d : DataW H} {p : List MemPlace} (h : DataW.trod enc Try.prog w base spare held m 52 cs = some (d, p)) (hK : Rows.uptoBulk d ≤ 1048576) :
    ∃ y : Wd, cs = [.slice y.kA y.kn y.kc, .slice y.gA y.gn y.gc, .slice y.iA y.im y.ic] ∧ (WdOk w w.heap.size y ∧ i64r (worldN y.p)) ∧ (worldN y.p).length ≤ Rows.uptoBulk d := by
  obtain ⟨xs, n', _, hx, hl, hlen, hf⟩ := DataW.trod_struct Try.underlying52 h
  have cT : Try.prog.cellsOf 52 = 3 := by kernel_rfl
  have c22 : Try.prog.cellsOf 22 = 1 := by kernel_rfl
  have c30 : Try.prog.cellsOf 30 = 1 := by kernel_rfl
  have c50 : Try.prog.cellsOf 50 = 1 := by kernel_rfl
  rw [cT] at hl
  have g0 : DataW.trod enc Try.prog w base spare held n' 22 ((cs.drop 0).take (Try.prog.cellsOf 22)) = xs[0]? := hf 0 _ rfl
  rw [c22] at g0
  have g1 : DataW.trod enc Try.prog w base spare held n' 30 ((cs.drop 1).take (Try.prog.cellsOf 30)) = xs[1]? := hf 1 _ rfl
  rw [c30] at g1
  have g2 : DataW.trod enc Try.prog w base spare held n' 50 ((cs.drop 2).take (Try.prog.cellsOf 50)) = xs[2]? := hf 2 _ rfl
  rw [c50] at g2
  match xs, hlen with
  | [(y0, p0), (y1, p1), (y2, p2)], _ =>
    match cs, hl with
    | [a0, a1, a2], _ =>
      injection hx with hx _
      simp only [List.map_cons, List.map_nil] at hx
      simp only [List.drop_succ_cons, List.drop_zero, List.take_succ_cons, List.take_zero, List.getElem?_cons_zero, List.getElem?_cons_succ] at g0 g1 g2
      have hb : Rows.uptoBulk d = Rows.uptoBulk y0 + Rows.uptoBulk y1 + Rows.uptoBulk y2 + 1 := by rw [hx]; simp only [Rows.uptoBulk, Rows.uptoBulkAll]; omega
      obtain ⟨A0, n0, k0, h0⟩ := slice_shape Try.underlying22 g0
      simp at h0
      subst h0
      obtain ⟨A1, n1, k1, h1⟩ := slice_shape Try.underlying30 g1
      simp at h1
      subst h1
      obtain ⟨A2, n2, k2, h2⟩ := slice_shape Try.underlying50 g2
      simp at h2
      subst h2
      obtain ⟨l, l1, l2, l3, l4, l5, l6⟩ := open_rows (size := 2) (α := Kd) (f := Kd.cs) (Q := fun z => KdOk w w.heap.size z ∧ i64r (kdN z.p)) (g := fun z => (kdN z.p).length) (K := 1048576) Try.underlying22 (by kernel_rfl) (by omega) (fun _ _ _ _ => el_kd) g0 (by omega)
      rw [← sum_len (fun z : Kd => kdN z.p)] at l6
      have lle : l.length ≤ (l.flatMap fun z => kdN z.p).length := flat_le (fun z : Kd => kdN z.p) l fun z _ => by unfold kdN textF; simp
      have el : (l.map Kd.p).flatMap kdN = l.flatMap fun z => kdN z.p := List.flatMap_map ..
      obtain ⟨gs, m1, m2, m3, m4, m5, m6⟩ := open_nums Try.underlying30 (by kernel_rfl) Try.underlying3 g1
      obtain ⟨t, t1, t2, t3, t4, t5, t6⟩ := open_rows (size := 3) (α := It) (f := It.cs) (Q := fun z => ItOk w w.heap.size z ∧ i64r (itN z.p)) (g := fun z => (itN z.p).length) (K := 1048576) Try.underlying50 (by kernel_rfl) (by omega) (fun _ _ _ _ => el_it) g2 (by omega)
      rw [← sum_len (fun z : It => itN z.p)] at t6
      have tle : t.length ≤ (t.flatMap fun z => itN z.p).length := flat_le (fun z : It => itN z.p) t fun z _ => by unfold itN; simp
      have et : (t.map It.p).flatMap itN = t.flatMap fun z => itN z.p := List.flatMap_map ..
      refine ⟨⟨A0, n0, k0, l, A1, n1, k1, gs, A2, n2, k2, t⟩, rfl, ⟨⟨⟨l4, l1, l2, l3, fun x hx => (l5 x hx).1, Nat.le_refl _⟩, ⟨m4, m1, m2, m3, m5, Nat.le_refl _⟩, ⟨t4, t1, t2, t3, fun x hx => (t5 x hx).1, Nat.le_refl _⟩⟩, ?_⟩, ?_⟩
      · show i64r ([((l.map Kd.p).length : Int)] ++ (l.map Kd.p).flatMap kdN ++ ([(gs.length : Int)] ++ gs) ++ ([((t.map It.p).length : Int)] ++ (t.map It.p).flatMap itN))
        rw [el, et, List.length_map, List.length_map]
        exact r_app (r_app (r_app (r_cons ⟨by omega, by omega⟩ r_nil) (r_flat fun x hx => (l5 x hx).2)) (r_app (r_cons ⟨by omega, by omega⟩ r_nil) (r_wf m5))) (r_app (r_cons ⟨by omega, by omega⟩ r_nil) (r_flat fun x hx => (t5 x hx).2))
      · show ([((l.map Kd.p).length : Int)] ++ (l.map Kd.p).flatMap kdN ++ ([(gs.length : Int)] ++ gs) ++ ([((t.map It.p).length : Int)] ++ (t.map It.p).flatMap itN)).length ≤ _
        rw [el, et]; simp only [List.length_append, List.length_cons, List.length_nil]; omega
/-- A contact. -/
theorem el_ct {m : Nat} {cs : List Value} {d : DataW H} {p : List MemPlace} (h : DataW.trod enc Try.prog w base spare held m 131 cs = some (d, p)) (hK : Rows.uptoBulk d ≤ 1048576) :
    ∃ z : List Int, cs = z.map (Value.int .i64) ∧ (z.length = 10 ∧ i64r z) ∧ z.length ≤ Rows.uptoBulk d := by
  obtain ⟨xs, n', _, hx, hl, hlen, hf⟩ := DataW.trod_struct Try.underlying131 h
  have cT : Try.prog.cellsOf 131 = 10 := by kernel_rfl
  have c3 : Try.prog.cellsOf 3 = 1 := by kernel_rfl
  have c105 : Try.prog.cellsOf 105 = 2 := by kernel_rfl
  rw [cT] at hl
  have g0 : DataW.trod enc Try.prog w base spare held n' 3 ((cs.drop 0).take (Try.prog.cellsOf 3)) = xs[0]? := hf 0 _ rfl
  rw [c3] at g0
  have g1 : DataW.trod enc Try.prog w base spare held n' 3 ((cs.drop 1).take (Try.prog.cellsOf 3)) = xs[1]? := hf 1 _ rfl
  rw [c3] at g1
  have g2 : DataW.trod enc Try.prog w base spare held n' 3 ((cs.drop 2).take (Try.prog.cellsOf 3)) = xs[2]? := hf 2 _ rfl
  rw [c3] at g2
  have g3 : DataW.trod enc Try.prog w base spare held n' 105 ((cs.drop 3).take (Try.prog.cellsOf 105)) = xs[3]? := hf 3 _ rfl
  rw [c105] at g3
  have g4 : DataW.trod enc Try.prog w base spare held n' 105 ((cs.drop 5).take (Try.prog.cellsOf 105)) = xs[4]? := hf 4 _ rfl
  rw [c105] at g4
  have g5 : DataW.trod enc Try.prog w base spare held n' 3 ((cs.drop 7).take (Try.prog.cellsOf 3)) = xs[5]? := hf 5 _ rfl
  rw [c3] at g5
  have g6 : DataW.trod enc Try.prog w base spare held n' 3 ((cs.drop 8).take (Try.prog.cellsOf 3)) = xs[6]? := hf 6 _ rfl
  rw [c3] at g6
  have g7 : DataW.trod enc Try.prog w base spare held n' 3 ((cs.drop 9).take (Try.prog.cellsOf 3)) = xs[7]? := hf 7 _ rfl
  rw [c3] at g7
  match xs, hlen with
  | [(y0, p0), (y1, p1), (y2, p2), (y3, p3), (y4, p4), (y5, p5), (y6, p6), (y7, p7)], _ =>
    match cs, hl with
    | [a0, a1, a2, a3, a4, a5, a6, a7, a8, a9], _ =>
      injection hx with hx _
      simp only [List.map_cons, List.map_nil] at hx
      simp only [List.drop_succ_cons, List.drop_zero, List.take_succ_cons, List.take_zero, List.getElem?_cons_zero, List.getElem?_cons_succ] at g0 g1 g2 g3 g4 g5 g6 g7
      have hb : Rows.uptoBulk d = Rows.uptoBulk y0 + Rows.uptoBulk y1 + Rows.uptoBulk y2 + Rows.uptoBulk y3 + Rows.uptoBulk y4 + Rows.uptoBulk y5 + Rows.uptoBulk y6 + Rows.uptoBulk y7 + 1 := by rw [hx]; simp only [Rows.uptoBulk, Rows.uptoBulkAll]; omega
      obtain ⟨z0, h0, b0, w0⟩ := DataW.trod_int Try.underlying3 g0
      injection b0 with b0 _
      simp at h0
      subst h0
      have b0' : Rows.uptoBulk y0 = 1 := by rw [b0]; simp [Rows.uptoBulk]
      have q0 := wf_i64 w0
      obtain ⟨z1, h1, b1, w1⟩ := DataW.trod_int Try.underlying3 g1
      injection b1 with b1 _
      simp at h1
      subst h1
      have b1' : Rows.uptoBulk y1 = 1 := by rw [b1]; simp [Rows.uptoBulk]
      have q1 := wf_i64 w1
      obtain ⟨z2, h2, b2, w2⟩ := DataW.trod_int Try.underlying3 g2
      injection b2 with b2 _
      simp at h2
      subst h2
      have b2' : Rows.uptoBulk y2 = 1 := by rw [b2]; simp [Rows.uptoBulk]
      have q2 := wf_i64 w2
      obtain ⟨z3, z3b, h3, w3, w3b, b3⟩ := el_vec g3 (by omega)
      simp at h3
      obtain ⟨rfl, rfl⟩ := h3
      obtain ⟨z4, z4b, h4, w4, w4b, b4⟩ := el_vec g4 (by omega)
      simp at h4
      obtain ⟨rfl, rfl⟩ := h4
      obtain ⟨z5, h5, b5, w5⟩ := DataW.trod_int Try.underlying3 g5
      injection b5 with b5 _
      simp at h5
      subst h5
      have b5' : Rows.uptoBulk y5 = 1 := by rw [b5]; simp [Rows.uptoBulk]
      have q5 := wf_i64 w5
      obtain ⟨z6, h6, b6, w6⟩ := DataW.trod_int Try.underlying3 g6
      injection b6 with b6 _
      simp at h6
      subst h6
      have b6' : Rows.uptoBulk y6 = 1 := by rw [b6]; simp [Rows.uptoBulk]
      have q6 := wf_i64 w6
      obtain ⟨z7, h7, b7, w7⟩ := DataW.trod_int Try.underlying3 g7
      injection b7 with b7 _
      simp at h7
      subst h7
      have b7' : Rows.uptoBulk y7 = 1 := by rw [b7]; simp [Rows.uptoBulk]
      have q7 := wf_i64 w7
      exact ⟨[z0, z1, z2, z3, z3b, z4, z4b, z5, z6, z7], rfl, ⟨rfl, r_cons q0 (r_cons q1 (r_cons q2 (r_cons (wf_i64 w3) (r_cons (wf_i64 w3b) (r_cons (wf_i64 w4) (r_cons (wf_i64 w4b) (r_cons q5 (r_cons q6 (r_cons q7 r_nil)))))))))⟩, by simp only [List.length_cons, List.length_nil]; omega⟩
/-- A mind. -/
theorem el_md {m : Nat} {cs : List Value} {d : DataW H} {p : List MemPlace} (h : DataW.trod enc Try.prog w base spare held m 225 cs = some (d, p)) (hK : Rows.uptoBulk d ≤ 1048576) :
    ∃ z : Mdm, cs = Mdm.cs z ∧ (MdO w w.heap.size z ∧ i64r (mdN z.p)) ∧ (mdN z.p).length ≤ Rows.uptoBulk d := by
  obtain ⟨xs, n', _, hx, hl, hlen, hf⟩ := DataW.trod_struct Try.underlying225 h
  have cT : Try.prog.cellsOf 225 = 4 := by kernel_rfl
  have c3 : Try.prog.cellsOf 3 = 1 := by kernel_rfl
  have c30 : Try.prog.cellsOf 30 = 1 := by kernel_rfl
  have c128 : Try.prog.cellsOf 128 = 2 := by kernel_rfl
  rw [cT] at hl
  have g0 : DataW.trod enc Try.prog w base spare held n' 128 ((cs.drop 0).take (Try.prog.cellsOf 128)) = xs[0]? := hf 0 _ rfl
  rw [c128] at g0
  have g1 : DataW.trod enc Try.prog w base spare held n' 3 ((cs.drop 2).take (Try.prog.cellsOf 3)) = xs[1]? := hf 1 _ rfl
  rw [c3] at g1
  have g2 : DataW.trod enc Try.prog w base spare held n' 30 ((cs.drop 3).take (Try.prog.cellsOf 30)) = xs[2]? := hf 2 _ rfl
  rw [c30] at g2
  match xs, hlen with
  | [(y0, p0), (y1, p1), (y2, p2)], _ =>
    match cs, hl with
    | [a0, a1, a2, a3], _ =>
      injection hx with hx _
      simp only [List.map_cons, List.map_nil] at hx
      simp only [List.drop_succ_cons, List.drop_zero, List.take_succ_cons, List.take_zero, List.getElem?_cons_zero, List.getElem?_cons_succ] at g0 g1 g2
      have hb : Rows.uptoBulk d = Rows.uptoBulk y0 + Rows.uptoBulk y1 + Rows.uptoBulk y2 + 1 := by rw [hx]; simp only [Rows.uptoBulk, Rows.uptoBulkAll]; omega
      obtain ⟨z0, z0b, h0, w0, w0b, b0⟩ := el_ent g0 (by omega)
      simp at h0
      obtain ⟨rfl, rfl⟩ := h0
      obtain ⟨z1, h1, b1, w1⟩ := DataW.trod_int Try.underlying3 g1
      injection b1 with b1 _
      simp at h1
      subst h1
      have b1' : Rows.uptoBulk y1 = 1 := by rw [b1]; simp [Rows.uptoBulk]
      have q1 := wf_i64 w1
      obtain ⟨A2, n2, k2, h2⟩ := slice_shape Try.underlying30 g2
      simp at h2
      subst h2
      obtain ⟨l, l1, l2, l3, l4, l5, l6⟩ := open_nums Try.underlying30 (by kernel_rfl) Try.underlying3 g2
      exact ⟨⟨z0, z0b, z1, A2, n2, k2, l⟩, rfl, ⟨⟨l4, l1, l2, l3⟩, r_app (r_app (r_cons (wf_i64 w0) (r_cons (wf_i64 w0b) (r_cons q1 r_nil))) (r_cons ⟨by show -9223372036854775808 ≤ (l.length : Int); omega, by show (l.length : Int) ≤ 9223372036854775807; omega⟩ r_nil)) (r_wf l5)⟩, by
        show ([z0, z0b, z1] ++ [(l.length : Int)] ++ l).length ≤ _
        rw [List.length_append]; simp only [List.length_append, List.length_cons, List.length_nil]; omega⟩
/-- An event. -/
theorem el_ev {m : Nat} {cs : List Value} {d : DataW H} {p : List MemPlace} (h : DataW.trod enc Try.prog w base spare held m 227 cs = some (d, p)) (hK : Rows.uptoBulk d ≤ 1048576) :
    ∃ z : List Int, cs = z.map (Value.int .i64) ∧ (z.length = 4 ∧ i64r z) ∧ z.length ≤ Rows.uptoBulk d := by
  obtain ⟨xs, n', _, hx, hl, hlen, hf⟩ := DataW.trod_struct Try.underlying227 h
  have cT : Try.prog.cellsOf 227 = 4 := by kernel_rfl
  have c3 : Try.prog.cellsOf 3 = 1 := by kernel_rfl
  have c128 : Try.prog.cellsOf 128 = 2 := by kernel_rfl
  rw [cT] at hl
  have g0 : DataW.trod enc Try.prog w base spare held n' 3 ((cs.drop 0).take (Try.prog.cellsOf 3)) = xs[0]? := hf 0 _ rfl
  rw [c3] at g0
  have g1 : DataW.trod enc Try.prog w base spare held n' 128 ((cs.drop 1).take (Try.prog.cellsOf 128)) = xs[1]? := hf 1 _ rfl
  rw [c128] at g1
  have g2 : DataW.trod enc Try.prog w base spare held n' 3 ((cs.drop 3).take (Try.prog.cellsOf 3)) = xs[2]? := hf 2 _ rfl
  rw [c3] at g2
  match xs, hlen with
  | [(y0, p0), (y1, p1), (y2, p2)], _ =>
    match cs, hl with
    | [a0, a1, a2, a3], _ =>
      injection hx with hx _
      simp only [List.map_cons, List.map_nil] at hx
      simp only [List.drop_succ_cons, List.drop_zero, List.take_succ_cons, List.take_zero, List.getElem?_cons_zero, List.getElem?_cons_succ] at g0 g1 g2
      have hb : Rows.uptoBulk d = Rows.uptoBulk y0 + Rows.uptoBulk y1 + Rows.uptoBulk y2 + 1 := by rw [hx]; simp only [Rows.uptoBulk, Rows.uptoBulkAll]; omega
      obtain ⟨z0, h0, b0, w0⟩ := DataW.trod_int Try.underlying3 g0
      injection b0 with b0 _
      simp at h0
      subst h0
      have b0' : Rows.uptoBulk y0 = 1 := by rw [b0]; simp [Rows.uptoBulk]
      have q0 := wf_i64 w0
      obtain ⟨z1, z1b, h1, w1, w1b, b1⟩ := el_ent g1 (by omega)
      simp at h1
      obtain ⟨rfl, rfl⟩ := h1
      obtain ⟨z2, h2, b2, w2⟩ := DataW.trod_int Try.underlying3 g2
      injection b2 with b2 _
      simp at h2
      subst h2
      have b2' : Rows.uptoBulk y2 = 1 := by rw [b2]; simp [Rows.uptoBulk]
      have q2 := wf_i64 w2
      exact ⟨[z0, z1, z1b, z2], rfl, ⟨rfl, r_cons q0 (r_cons (wf_i64 w1) (r_cons (wf_i64 w1b) (r_cons q2 r_nil)))⟩, by simp only [List.length_cons, List.length_nil]; omega⟩
/-- A state. -/
theorem open_st {m : Nat} {cs : List Value} {d : DataW H} {p : List MemPlace} (h : DataW.trod enc Try.prog w base spare held m 80 cs = some (d, p)) (hK : Rows.uptoBulk d ≤ 1048576) :
    ∃ y : Sm, cs = y.cs.toList ∧ SmO w w.heap.size y ∧ i64r (flatS y.p) ∧ (flatS y.p).length ≤ Rows.uptoBulk d := by
  obtain ⟨xs, n', _, hx, hl, hlen, hf⟩ := DataW.trod_struct Try.underlying80 h
  have cT : Try.prog.cellsOf 80 = 7 := by kernel_rfl
  have c3 : Try.prog.cellsOf 3 = 1 := by kernel_rfl
  have c52 : Try.prog.cellsOf 52 = 3 := by kernel_rfl
  have c76 : Try.prog.cellsOf 76 = 1 := by kernel_rfl
  have c77 : Try.prog.cellsOf 77 = 1 := by kernel_rfl
  have c78 : Try.prog.cellsOf 78 = 1 := by kernel_rfl
  rw [cT] at hl
  have g0 : DataW.trod enc Try.prog w base spare held n' 3 ((cs.drop 0).take (Try.prog.cellsOf 3)) = xs[0]? := hf 0 _ rfl
  rw [c3] at g0
  have g1 : DataW.trod enc Try.prog w base spare held n' 52 ((cs.drop 1).take (Try.prog.cellsOf 52)) = xs[1]? := hf 1 _ rfl
  rw [c52] at g1
  have g2 : DataW.trod enc Try.prog w base spare held n' 76 ((cs.drop 4).take (Try.prog.cellsOf 76)) = xs[2]? := hf 2 _ rfl
  rw [c76] at g2
  have g3 : DataW.trod enc Try.prog w base spare held n' 77 ((cs.drop 5).take (Try.prog.cellsOf 77)) = xs[3]? := hf 3 _ rfl
  rw [c77] at g3
  have g4 : DataW.trod enc Try.prog w base spare held n' 78 ((cs.drop 6).take (Try.prog.cellsOf 78)) = xs[4]? := hf 4 _ rfl
  rw [c78] at g4
  match xs, hlen with
  | [(y0, p0), (y1, p1), (y2, p2), (y3, p3), (y4, p4)], _ =>
    match cs, hl with
    | [a0, a1, a2, a3, a4, a5, a6], _ =>
      injection hx with hx _
      simp only [List.map_cons, List.map_nil] at hx
      simp only [List.drop_succ_cons, List.drop_zero, List.take_succ_cons, List.take_zero, List.getElem?_cons_zero, List.getElem?_cons_succ] at g0 g1 g2 g3 g4
      have hb : Rows.uptoBulk d = Rows.uptoBulk y0 + Rows.uptoBulk y1 + Rows.uptoBulk y2 + Rows.uptoBulk y3 + Rows.uptoBulk y4 + 1 := by rw [hx]; simp only [Rows.uptoBulk, Rows.uptoBulkAll]; omega
      obtain ⟨z0, h0, b0, w0⟩ := DataW.trod_int Try.underlying3 g0
      injection b0 with b0 _
      simp at h0
      subst h0
      have b0' : Rows.uptoBulk y0 = 1 := by rw [b0]; simp [Rows.uptoBulk]
      have q0 := wf_i64 w0
      obtain ⟨y, h1, ⟨hw, hwr⟩, hwb⟩ := el_wd g1 (by omega)
      simp at h1
      obtain ⟨rfl, rfl, rfl⟩ := h1
      obtain ⟨A2, n2, k2, h2⟩ := slice_shape Try.underlying76 g2
      simp at h2
      subst h2
      obtain ⟨A3, n3, k3, h3⟩ := slice_shape Try.underlying77 g3
      simp at h3
      subst h3
      obtain ⟨A4, n4, k4, h4⟩ := slice_shape Try.underlying78 g4
      simp at h4
      subst h4
      obtain ⟨c, c1, c2, c3, c4, c5, c6⟩ := open_rows (size := 10) (α := List Int) (f := fun z => z.map (Value.int .i64)) (Q := fun z => z.length = 10 ∧ i64r z) (g := fun z => (z).length) (K := 1048576) Try.underlying76 (by kernel_rfl) (by omega) (fun _ _ _ _ => el_ct) g2 (by omega)
      obtain ⟨u, u1, u2, u3, u4, u5, u6⟩ := open_rows (size := 4) (α := Mdm) (f := Mdm.cs) (Q := fun z => MdO w w.heap.size z ∧ i64r (mdN z.p)) (g := fun z => (mdN z.p).length) (K := 1048576) Try.underlying77 (by kernel_rfl) (by omega) (fun _ _ _ _ => el_md) g3 (by omega)
      obtain ⟨e, e1, e2, e3, e4, e5, e6⟩ := open_rows (size := 4) (α := List Int) (f := fun z => z.map (Value.int .i64)) (Q := fun z => z.length = 4 ∧ i64r z) (g := fun z => (z).length) (K := 1048576) Try.underlying78 (by kernel_rfl) (by omega) (fun _ _ _ _ => el_ev) g4 (by omega)
      have hc6 : 1 + (c.flatMap id).length ≤ Rows.uptoBulk y2 := by rw [sum_len id]; exact c6
      have he6 : 1 + (e.flatMap id).length ≤ Rows.uptoBulk y4 := by rw [sum_len id]; exact e6
      rw [← sum_len (fun z : Mdm => mdN z.p)] at u6
      have cle : c.length ≤ (c.flatMap id).length := flat_le id c fun z hz => by have := (c5 z hz).1; show 1 ≤ z.length; omega
      have ele : e.length ≤ (e.flatMap id).length := flat_le id e fun z hz => by have := (e5 z hz).1; show 1 ≤ z.length; omega
      have ule : u.length ≤ (u.flatMap fun z => mdN z.p).length := flat_le (fun z : Mdm => mdN z.p) u fun z _ => by unfold mdN Mdm.p; simp
      have eu : (u.map Mdm.p).flatMap mdN = u.flatMap fun z => mdN z.p := List.flatMap_map ..
      refine ⟨⟨z0, y, A2, n2, k2, c, A3, n3, k3, u, A4, n4, k4, e⟩, rfl, ⟨hw, ⟨c4, c1, c2, c3, fun x hx => (c5 x hx).1⟩, ⟨u4, u1, u2, u3, fun x hx => (u5 x hx).1⟩, ⟨e4, e1, e2, e3, fun x hx => (e5 x hx).1⟩⟩, ?_, ?_⟩
      · show i64r (z0 :: (worldN y.p ++ (([(c.length : Int)] ++ c.flatMap id) ++ (([((u.map Mdm.p).length : Int)] ++ (u.map Mdm.p).flatMap mdN) ++ ([(e.length : Int)] ++ e.flatMap id)))))
        rw [eu, List.length_map]
        exact r_cons q0 (r_app hwr (r_app (r_app (r_cons ⟨by omega, by omega⟩ r_nil) (r_flat fun x hx => (c5 x hx).2)) (r_app (r_app (r_cons ⟨by omega, by omega⟩ r_nil) (r_flat fun x hx => (u5 x hx).2)) (r_app (r_cons ⟨by omega, by omega⟩ r_nil) (r_flat fun x hx => (e5 x hx).2)))))
      · show (z0 :: (worldN y.p ++ (([(c.length : Int)] ++ c.flatMap id) ++ (([((u.map Mdm.p).length : Int)] ++ (u.map Mdm.p).flatMap mdN) ++ ([(e.length : Int)] ++ e.flatMap id))))).length ≤ _
        rw [eu]; simp only [List.length_append, List.length_cons, List.length_nil]; omega
end
end Go.Proofs.Ytnidcmhfbkdioaa
