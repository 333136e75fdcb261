/-
  Lemmas for the walk, merged (Kit Kg Kh Ki Sq). No condition but those in each statement.
-/
import Derived.WalkKit
import Derived.WalkSpells
import Derived.WalkLawsBesides
import Derived.BigQuiet
import Derived.Handy
import Derived.Lib.Hide
import Derived.Deep.AppendLies
import Derived.Maps.AppendAt
import Derived.Deep.Draws
import Derived.Deep.QuietTactic
import Derived.Deep.RegionHeld3
import Derived.Deep.LoopGhost
import Derived.Deep.CutRange
import Derived.Laws.ResultCell
import Derived.Laws.CopyOwn
import Derived.ArgAppend
import Derived.RegionTactic
import Derived.ChangeAlike
import Derived.BigRegion
import Derived.IntWalk
import Derived.Test.YtnidcmhfbkdioaaRows
namespace Go.Proofs.Ytnidcmhfbkdioaa
/-! ### Kit -/
open Go.RowKit
/-! ### A slice that reads as the cells 'xs': its head lies below block B -/
def Rd (w : World) (B size : Nat) (A : Option Addr) (n : Nat) (xs : List Value) : Prop :=
  xs.length = n * size ∧ (0 < n → ∃ b o, A = some ⟨b, o, none⟩ ∧ b < B ∧ ∀ j u, xs[j]? = some u → w.cell? ⟨b, o + j, none⟩ = some u)
section
variable {w w' : World} {B B' size n : Nat} {A : Option Addr} {xs : List Value}
theorem Rd.nil_ (A : Option Addr) : Rd w B size A 0 [] := ⟨by simp, fun h => absurd h (by omega)⟩
theorem Rd.keep (h : Rd w B size A n xs) (hk : ∀ b, b < B → w'.heap[b]? = w.heap[b]?) : Rd w' B size A n xs :=
  ⟨h.1, fun hn => by
    obtain ⟨b, o, e, hb, hc⟩ := h.2 hn
    exact ⟨b, o, e, hb, fun j u hu => (World.cell?_of_block (w := w) (hk b hb)).trans (hc j u hu)⟩⟩
theorem Rd.more (h : Rd w B size A n xs) (hB : B ≤ B') : Rd w B' size A n xs :=
  ⟨h.1, fun hn => by
    obtain ⟨b, o, e, hb, hc⟩ := h.2 hn
    exact ⟨b, o, e, by omega, hc⟩⟩
theorem Rd.below (h : Rd w B size A n xs) (hb : Below B w w') : Rd w' B size A n xs := h.keep fun b hlt => hb.block b hlt
theorem Rd.of_own {base : Nat} {e : TypeId} {c : Nat} (h : w.ownsRow base e size (.slice A n c) n xs) : Rd w w.heap.size size A n xs := by
  refine ⟨h.1, fun hn => ?_⟩
  obtain ⟨g, cap, hv, _, hlt⟩ := h.form hn
  have hA : A = some ⟨g, 0, none⟩ := by injection hv
  subst hA
  refine ⟨g, 0, rfl, hlt, fun j u hu => ?_⟩
  have := h.cells (g := g) rfl j u hu
  rw [Addr.add_lit] at this
  exact this
/-- The cell k of a slice of one-cell elements. -/
theorem Rd.at1 {k : Nat} {u : Value} (h : Rd w B 1 A n xs) (hk : k < n) (hu : xs[k]? = some u) : ∃ b o, A = some ⟨b, o, none⟩ ∧ b < B ∧ w.cell? ⟨b, o + k, none⟩ = some u := by
  obtain ⟨b, o, e, hb, hc⟩ := h.2 (by omega)
  exact ⟨b, o, e, hb, hc k u hu⟩
end
/-! ### A block that is known whole -/
def Bk (w : World) (g : Nat) (t : TypeId) (cs : Array Value) : Prop := w.heap[g]? = some (.cells cs t (0, 0))
section
variable {w w' : World} {g : Nat} {t : TypeId} {cs : Array Value}
theorem Bk.lt (h : Bk w g t cs) : g < w.heap.size := by
  rcases Nat.lt_or_ge g w.heap.size with hlt | hge
  · exact hlt
  · unfold Bk at h; rw [Array.getElem?_eq_none hge] at h; cases h
theorem Bk.cell (h : Bk w g t cs) (i : Nat) : w.cell? ⟨g, i, none⟩ = cs[i]? := cell_of_row w g i cs t (0, 0) h
theorem Bk.frozen (h : Bk w g t cs) (i : Nat) : w.frozen? ⟨g, i, none⟩ = false := by
  unfold Bk at h
  simp [World.frozen?, h]
theorem Bk.new (w : World) (t : TypeId) (cs : Array Value) : Bk (w.alloc (.cells cs t)) w.heap.size t cs := heap_alloc_new w _
theorem Bk.alloc (h : Bk w g t cs) (o : Obj) : Bk (w.alloc o) g t cs := (Below.heap_alloc w o g h.lt).trans h
theorem Bk.drewN (h : Bk w g t cs) (n : Nat) : Bk (w.drewN n) g t cs := h
theorem Bk.set_ (h : Bk w g t cs) (i : Nat) (u : Value) : Bk (w.setCell ⟨g, i, none⟩ u) g t (cs.setIfInBounds i u) := by
  unfold Bk at h ⊢
  simp [World.setCell, Array.getElem?_modify, h]
theorem Bk.far (h : Bk w g t cs) {p : Addr} (hp : g ≠ p.block) (u : Value) : Bk (w.setCell p u) g t cs := (Below.heap_setCell w p u g hp).trans h
theorem Bk.below {B : Nat} (h : Bk w g t cs) (hb : Below B w w') (hg : g < B) : Bk w' g t cs := (hb.block g hg).trans h
theorem Bk.grown {row : Option Nat} (h : Bk w g t cs) (hb : w.grownBy w' row) (hg : some g ≠ row) : Bk w' g t cs := (hb.block g h.lt hg).trans h
theorem Bk.ne_ {g' : Nat} {t' : TypeId} {cs' : Array Value} (h : Bk w g t cs) (h' : Bk w g' t' cs') (hne : t ≠ t') : g ≠ g' := by
  rintro rfl
  unfold Bk at h h'
  rw [h] at h'
  injection h' with h'
  injection h' with _ ht
  exact hne ht
theorem own_ne {base : Nat} {e : TypeId} {size n : Nat} {v : Value} {xs : List Value} (h : w.ownsRow base e size v n xs) (hg : Bk w g t cs) (hne : e ≠ t) : v.ownBlock ≠ some g := by
  rcases h.2 with ⟨rfl, _⟩ | ⟨g', cap, cur, rfl, _, hh, _⟩
  · simp [Value.ownBlock]
  · intro he
    have : g' = g := by simpa [Value.ownBlock] using he
    subst this
    exact Bk.ne_ (t := e) hh hg hne rfl
end
/-! ### What a call may have touched: block g, blocks of element type e from 'base' on, what is new -/
structure Kp (base : Nat) (e : TypeId) (g : Nat) (w w' : World) : Prop where
  os : w'.os = w.os
  tape : w'.tape = w.tape
  output : w'.output = w.output
  size : w.heap.size ≤ w'.heap.size
  low : ∀ k, k < base → k < w.heap.size → k ≠ g → w'.heap[k]? = w.heap[k]?
  block : ∀ k t cs, Bk w k t cs → k ≠ g → t ≠ e → Bk w' k t cs
section
variable {base g : Nat} {e : TypeId} {a b c w w' : World}
theorem Kp.refl : Kp base e g w w := ⟨rfl, rfl, rfl, Nat.le_refl _, fun _ _ _ _ => rfl, fun _ _ _ h _ _ => h⟩
theorem Kp.trans (h : Kp base e g a b) (k : Kp base e g b c) : Kp base e g a c :=
  ⟨k.os.trans h.os, k.tape.trans h.tape, k.output.trans h.output, Nat.le_trans h.size k.size,
   fun i h1 h2 h3 => (k.low i h1 (Nat.lt_of_lt_of_le h2 h.size) h3).trans (h.low i h1 h2 h3),
   fun i t cs h1 h2 h3 => k.block i t cs (h.block i t cs h1 h2 h3) h2 h3⟩
theorem Kp.drew (h : Kp base e g a w) : Kp base e g a w.drew := ⟨h.os, h.tape, h.output, h.size, h.low, h.block⟩
theorem Kp.drewN (h : Kp base e g a w) (n : Nat) : Kp base e g a (w.drewN n) := ⟨h.os, h.tape, h.output, h.size, h.low, h.block⟩
theorem Kp.alloc (h : Kp base e g a w) (o : Obj) : Kp base e g a (w.alloc o) :=
  h.trans ⟨rfl, rfl, rfl, by simp, fun k _ hk _ => Below.heap_alloc _ _ _ hk, fun _ _ _ hk _ _ => hk.alloc o⟩
theorem Kp.grown (h : Kp base e g a w) {size n : Nat} {v : Value} {xs : List Value} (ho : w.ownsRow base e size v n xs) (hg : w.grownBy w' v.ownBlock) : Kp base e g a w' := by
  refine h.trans ⟨hg.os, hg.tape, hg.output, hg.size, fun k h1 h2 _ => hg.block k h2 (fun e1 => ?_), fun k t cs hk _ h3 => hk.grown hg (fun e1 => own_ne ho hk (Ne.symm h3) e1.symm)⟩
  have := (ho.lt k e1.symm).1
  omega
theorem Kp.below (h : Kp base e g a w) (hg : base ≤ g) (hb : base ≤ a.heap.size) : Below base a w :=
  ⟨h.os, h.tape, h.output, h.size, fun k hk => h.low k hk (by omega) (by omega)⟩
theorem Kp.of_below {B : Nat} (h : Below B w w') (hB : w.heap.size ≤ B) : Kp base e g w w' :=
  ⟨h.os, h.tape, h.output, h.size, fun k _ hk _ => h.block k (by omega), fun k _ _ hk _ _ => (h.block k (by have := hk.lt; omega)).trans hk⟩
end
/-! ### append onto a row of the call's own, the source nil, empty or not -/
section
variable {P : Program} (w : World)
theorem run_append_rd (base : Nat) (t ty e : TypeId) (i : TypeInfo) (z : Value) (size bytes : Nat) (ht : P.underlying t = some (.slice e)) (hi : P.info? e = some i) (hz : i.zero = some z)
    (hsize : i.size = size) (hby : i.bytes = bytes) (hzs : z.cells.size = size) (hsz : 0 < size)
    (v : Value) (n : Nat) (xs : List Value) (hown : w.ownsRow base e size v n xs)
    (B : Nat) (A : Option Addr) (m c : Nat) (news : List Value) (hr : Rd w B size A m news) (h1 : ∀ u ∈ news, u.oneCell' = true)
    (h63 : n + m ≤ maxLen) (hbytes : (n + m) * bytes ≤ 140737488355328) (hbase : base ≤ w.heap.size) :
    ∃ v' w', (Builtin.append_ #[t, t] ty #[v, .slice A m c]).run P w = .ok v' w' ∧ w'.ownsRow base e size v' (n + m) (xs ++ news) ∧ w.grownBy w' v.ownBlock ∧
      (v'.ownBlock = v.ownBlock ∨ v'.ownBlock = some w.heap.size) := by
  rcases A with _ | ad
  · have hm : m = 0 := by
      rcases Nat.eq_zero_or_pos m with h0 | h0
      · exact h0
      · obtain ⟨_, _, h, _⟩ := hr.2 h0
        cases h
    subst hm
    have hn : news = [] := List.eq_nil_of_length_eq_zero (by simpa using hr.1)
    subst hn
    refine ⟨v, w, ?_, by simpa using hown, World.grownBy.refl w _, .inl rfl⟩
    rcases hown.2 with ⟨rfl, rfl⟩ | ⟨g, cap, cur, rfl, _, _, hnc, _⟩
    · simp [Builtin.append_, run_underlying ht, sizeOf, typeInfo, hi, Builtin.lenOf, Builtin.firstCells]
    · simp [Builtin.append_, run_underlying ht, sizeOf, typeInfo, hi, Builtin.lenOf, Builtin.firstCells, hnc, storeCells]
  · have hcells : ∀ j u, news[j]? = some u → w.cell? (ad.add j) = some u := by
      intro j u hu
      rcases Nat.eq_zero_or_pos m with h0 | h0
      · subst h0
        have hn : news = [] := List.eq_nil_of_length_eq_zero (by simpa using hr.1)
        subst hn
        simp at hu
      · obtain ⟨b, o, h, _, hc⟩ := hr.2 h0
        injection h with h
        subst h
        rw [Addr.add_lit]
        exact hc j u hu
    obtain ⟨v', w', hrun, h2, h3, _, h5⟩ := run_append_own_at (P := P) w base t ty e i z size bytes ht hi hz hsize hby hzs hsz v n xs hown ad m c news hr.1 hcells h1 h63 hbytes hbase
    exact ⟨v', w', hrun, h2, h3, h5⟩
theorem ownsRow_slice {w : World} {base : Nat} {e : TypeId} {size n : Nat} {v : Value} {xs : List Value} (h : w.ownsRow base e size v n xs) : ∃ A c, v = .slice A n c := by
  rcases h.2 with ⟨rfl, rfl⟩ | ⟨g, cap, _, rfl, _⟩
  · exact ⟨_, _, rfl⟩
  · exact ⟨_, _, rfl⟩
theorem wp_append_rd {o : Oper} {a : Act} {K : Act → World → Prop} {Q : Exit → Act → World → Prop} (s x : Operand) (t : TypeId)
    (ho : o.op = .call { callee := .builtin .append, args := #[s, x], argTypes := #[t, t] })
    (base : Nat) (e : TypeId) (i : TypeInfo) (z : Value) (size bytes : Nat) (ht : P.underlying t = some (.slice e)) (hi : P.info? e = some i) (hz : i.zero = some z)
    (hsize : i.size = size) (hby : i.bytes = bytes) (hzs : z.cells.size = size) (hsz : 0 < size)
    (v : Value) (n : Nat) (xs : List Value) (hs : a.eval s = v) (hown : w.ownsRow base e size v n xs)
    (B : Nat) (A : Option Addr) (m c : Nat) (news : List Value) (hx : a.eval x = .slice A m c) (hr : Rd w B size A m news) (h1 : ∀ u ∈ news, u.oneCell' = true)
    (h63 : n + m ≤ maxLen) (hbytes : (n + m) * bytes ≤ 140737488355328) (hbase : base ≤ w.heap.size)
    (h : ∀ A' c' w', w'.ownsRow base e size (.slice A' (n + m) c') (n + m) (xs ++ news) → w.grownBy w' v.ownBlock → ((Value.slice A' (n + m) c').ownBlock = v.ownBlock ∨ (Value.slice A' (n + m) c').ownBlock = some w.heap.size) → K (a.put o.dst (.slice A' (n + m) c')) w') : o.wp P a w K Q := by
  obtain ⟨v', w', hrun, h2, h3, h4⟩ := run_append_rd (P := P) w base t o.type e i z size bytes ht hi hz hsize hby hzs hsz v n xs hown B A m c news hr h1 h63 hbytes hbase
  obtain ⟨A', c', rfl⟩ := ownsRow_slice h2
  unfold Oper.wp execOp
  simp only [ho, resolve, invoke, builtin, Sem.run_bind, Sem.run_pure, Result.andThen_ok, List.map_toArray, List.map_cons, List.map_nil, hs, hx, hrun]
  exact h A' c' w' h2 h3 h4
/-- 'append(s, x...)', s a row of the call's own, x whatever can be read. -/
theorem wpList_append_rd {ops : Array Oper} {rest : List Oper} {o : Oper} {a : Act} {Q : Exit → Act → World → Prop} (hgd : o.guard = none) (s x : Operand) (t : TypeId)
    (ho : o.op = .call { callee := .builtin .append, args := #[s, x], argTypes := #[t, t] })
    (base : Nat) (e : TypeId) (i : TypeInfo) (z : Value) (size bytes : Nat) (ht : P.underlying t = some (.slice e)) (hi : P.info? e = some i) (hz : i.zero = some z)
    (hsize : i.size = size) (hby : i.bytes = bytes) (hzs : z.cells.size = size) (hsz : 0 < size)
    (v : Value) (n : Nat) (xs : List Value) (hs : a.eval s = v) (hown : w.ownsRow base e size v n xs)
    (B : Nat) (A : Option Addr) (m c : Nat) (news : List Value) (hx : a.eval x = .slice A m c) (hr : Rd w B size A m news) (h1 : ∀ u ∈ news, u.oneCell' = true)
    (h63 : n + m ≤ maxLen) (hbytes : (n + m) * bytes ≤ 140737488355328) (hbase : base ≤ w.heap.size)
    (h : ∀ A' c' w', w'.ownsRow base e size (.slice A' (n + m) c') (n + m) (xs ++ news) → w.grownBy w' v.ownBlock → ((Value.slice A' (n + m) c').ownBlock = v.ownBlock ∨ (Value.slice A' (n + m) c').ownBlock = some w.heap.size) → wpList P ops Q rest (a.put o.dst (.slice A' (n + m) c')) w') : wpList P ops Q (o :: rest) a w :=
  wpList_plain hgd fun _ hK => wp_append_rd w s x t ho base e i z size bytes ht hi hz hsize hby hzs hsz v n xs hs hown B A m c news hx hr h1 h63 hbytes hbase fun A' c' w' h2 h3 h4 => hK _ _ (h A' c' w' h2 h3 h4)
/-- 'append(s, x)', ONE element (of 'size' cells): the new block of the element has just been laid. -/
theorem wpList_append_one {ops : Array Oper} {rest : List Oper} {o : Oper} {a : Act} {Q : Exit → Act → World → Prop} (hgd : o.guard = none) (s x : Operand) (t : TypeId)
    (ho : o.op = .call { callee := .builtin .append, args := #[s, x], argTypes := #[t, t] })
    (base : Nat) (e : TypeId) (i : TypeInfo) (z : Value) (size bytes : Nat) (ht : P.underlying t = some (.slice e)) (hi : P.info? e = some i) (hz : i.zero = some z)
    (hsize : i.size = size) (hby : i.bytes = bytes) (hzs : z.cells.size = size) (hsz : 0 < size)
    (v : Value) (n : Nat) (xs : List Value) (hs : a.eval s = v) (hown : w.ownsRow base e size v n xs)
    (b c : Nat) (t' : TypeId) (cs : Array Value) (hx : a.eval x = .slice (some ⟨b, 0, none⟩) 1 c) (hr : Bk w b t' cs) (hcs : cs.size = size) (h1 : ∀ u ∈ cs.toList, u.oneCell' = true)
    (n' : Nat) (hn' : n' = n + 1) (h63 : n' ≤ maxLen) (hbytes : n' * bytes ≤ 140737488355328) (hbase : base ≤ w.heap.size)
    (h : ∀ g' c' w', w'.ownsRow base e size (.slice (some ⟨g', 0, none⟩) n' c') n' (xs ++ cs.toList) → w.grownBy w' v.ownBlock → (v.ownBlock = some g' ∨ g' = w.heap.size) → wpList P ops Q rest (a.put o.dst (.slice (some ⟨g', 0, none⟩) n' c')) w') : wpList P ops Q (o :: rest) a w := by
  subst hn'
  have hrd : Rd w w.heap.size size (some ⟨b, 0, none⟩) 1 cs.toList :=
    ⟨by simp [hcs], fun _ => ⟨_, _, rfl, hr.lt, fun j u hu => by
      rw [Nat.zero_add]
      exact (hr.cell j).trans (by simpa using hu)⟩⟩
  refine wpList_append_rd w hgd s x t ho base e i z size bytes ht hi hz hsize hby hzs hsz v n xs hs hown _ _ 1 c _ hx hrd h1 h63 hbytes hbase fun A' c' w' h2 h3 h4 => ?_
  obtain ⟨g, cap, hv, _, hlt⟩ := h2.form (by omega)
  have hA : A' = some ⟨g, 0, none⟩ := by injection hv
  subst hA
  refine h g c' w' h2 h3 ?_
  rcases h4 with h4 | h4
  · exact .inl (by rw [← h4]; rfl)
  · exact .inr (by simpa [Value.ownBlock] using h4)
end
/-- The cells of one new struct. -/
theorem Rd.new (w : World) (t : TypeId) (m size : Nat) (cs : Array Value) (h : cs.size = m * size) : Rd (w.alloc (.cells cs t)) (w.heap.size + 1) size (some ⟨w.heap.size, 0, none⟩) m cs.toList :=
  ⟨by simpa using h, fun _ => ⟨_, _, rfl, by omega, fun j v hv => by
    rw [Nat.zero_add]
    exact ((Bk.new w t cs).cell j).trans (by simpa using hv)⟩⟩
theorem ret_i {k : IntKind} {a b : Int} (h : a = b) : Ending.returned (.int k a) = .returned (.int k b) := by rw [h]
theorem ret_b {a b : Bool} (h : a = b) : Ending.returned (.bool a) = .returned (.bool b) := by rw [h]
/-! ### Kg -/
/-! ### Ka -/
def okc (c i : Nat) : Bool := (decide (97 ≤ c) && decide (c ≤ 122)) || (decide (0 < i) && (decide (48 ≤ c) && decide (c ≤ 57)))
def nameF (s : ByteArray) : Bool := decide (0 < s.data.toList.length) && (decide (s.data.toList.length ≤ 16) && s.data.toList.zipIdx.all fun p => okc p.1.toNat p.2)
theorem size_list (s : ByteArray) : s.data.toList.length = s.size := by
  obtain ⟨d⟩ := s
  exact Array.length_toList
theorem nameF_big {s : ByteArray} (h : 16 < s.size) : nameF s = false := by
  unfold nameF; rw [size_list, decide_eq_false (show ¬ s.size ≤ 16 by omega)]; simp
theorem nameF_zero {s : ByteArray} (h : s.size = 0) : nameF s = false := by
  unfold nameF; rw [size_list, h]; rfl
theorem nameF_all {s : ByteArray} (h0 : s.size ≠ 0) (h1 : ¬ 16 < s.size) (h : ∀ i (hi : i < s.size), okc s[i].toNat i = true) : nameF s = true := by
  unfold nameF
  rw [size_list, decide_eq_true (show 0 < s.size by omega), decide_eq_true (show s.size ≤ 16 by omega), Bool.true_and, Bool.true_and, List.all_eq_true]
  rintro ⟨c, i⟩ hc
  rw [List.mem_zipIdx_iff_getElem?] at hc
  obtain ⟨hi, e⟩ := List.getElem?_eq_some_iff.1 hc
  rw [size_list] at hi
  have := h i hi
  rw [show s[i] = c from e] at this
  exact this
theorem nameF_bad {s : ByteArray} {i : Nat} (hi : i < s.size) (h : okc s[i].toNat i = false) : nameF s = false := by
  unfold nameF
  have : (s.data.toList.zipIdx.all fun p => okc p.1.toNat p.2) = false := by
    rw [List.all_eq_false]
    refine ⟨(s[i], i), ?_, by simp [h]⟩
    rw [List.mem_zipIdx_iff_getElem?]
    exact List.getElem?_eq_some_iff.2 ⟨by rw [size_list]; exact hi, rfl⟩
  rw [this]; simp
theorem name_any (s : ByteArray) (w : World) : Calls Try.prog 208 #[.string s] w fun e w' => e = .returned (.bool (nameF s)) ∧ w = w' := by
  by_cases h0 : s.size = 0
  · obtain rfl : s = ByteArray.empty := by
      obtain ⟨d⟩ := s
      congr
      exact Array.eq_empty_of_size_eq_zero h0
    rw [nameF_zero h0]
    clear h0
    go_enter Try.func208, Try.ntmps208
    go_wp2_with fail
    go_ret
    exact ⟨rfl, rfl⟩
  · have hz : ((s.size : Int) == 0) = false := by simp only [beq_eq_false_iff_ne, ne_eq]; omega
    by_cases h16 : 16 < s.size
    · have h1 : (16 : Int) < s.size := by omega
      rw [nameF_big h16]
      go_enter Try.func208, Try.ntmps208
      go_wp2_with fail
      go_ret
      exact ⟨rfl, rfl⟩
    · have h1 : ¬ (16 : Int) < s.size := by omega
      have H16 := Lib.hid h16
      have H0 := Lib.hid h0
      obtain ⟨R, hR⟩ : ∃ R, R = nameF s := ⟨_, rfl⟩
      rw [← hR]
      have HR := Lib.hid hR
      clear hR h16 h0
      go_enter Try.func208, Try.ntmps208
      go_wp2_with fail
      go_loopg [15] s.size (fun g v wr => ∃ k : Nat, k ≤ s.size ∧ g = s.size - k ∧ v = .int .i64 k ∧ w = wr ∧ Hid (∀ i (hi : i < s.size), i < k → okc s[i].toNat i = true))
      case atStart => exact ⟨0, Nat.zero_le _, rfl, rfl, rfl, Lib.hid fun i _ h => by omega⟩
      case round =>
        obtain ⟨k, hk, rfl, rfl, rfl, HP⟩ := hrel
        by_cases hkn : k < s.size
        · obtain ⟨c, hc⟩ : ∃ c, c = s[k].toNat := ⟨_, rfl⟩
          have HC := Lib.hid hc
          go_upto_region 7 with fail
          rw [← hc]
          go_cut [39] from 21 to 39 (fun s39 wx => s39 = .bool (!okc c k) ∧ w = wx)
          case first =>
            clear hc
            have key : ∀ b : Bool, b = okc c k → okc c k = b := fun _ h => h.symm
            go_wp2_with fail
            all_goals
              go_meet
              refine ⟨?_, rfl⟩
              congr 1
              rw [Bool.eq_iff_iff]
              simp [okc]
              try omega
          case rest =>
            obtain ⟨rfl, rfl⟩ := hcut
            cases hok : okc c k
            · go_wp2_with fail
              go_ret
              rw [HR.out, nameF_bad hkn (by rw [← HC.out]; exact hok)]
              exact ⟨rfl, rfl⟩
            · go_wp2_with fail
              go_roundg (s.size - (k + 1))
              case measure => omega
              case rel => exact ⟨k + 1, by omega, rfl, by go_num, rfl, Lib.hid fun i hi hlt => by
                rcases Nat.lt_or_ge i k with h | h
                · exact HP.out i hi h
                · obtain rfl : i = k := by omega
                  rw [← HC.out]; exact hok⟩
        · obtain rfl : k = s.size := by omega
          go_wp2_with fail
          go_ret
          rw [HR.out, nameF_all H0.out H16.out fun i hi => HP.out i hi hi]
          exact ⟨rfl, rfl⟩
/-! ### Kb -/
theorem ba_beq_ne {a b : ByteArray} (h : a ≠ b) : (a == b) = false := by
  obtain ⟨a⟩ := a
  obtain ⟨b⟩ := b
  have h2 : a ≠ b := fun e => h (by rw [e])
  show (a == b) = false
  simp [h2]
theorem ba_tl_ne {a b : ByteArray} (h : a ≠ b) : (a.toList == b.toList) = false := by
  rw [beq_eq_false_iff_ne]
  intro e
  apply h
  obtain ⟨a⟩ := a
  obtain ⟨b⟩ := b
  simp only [ByteArray.toList_eq] at e
  congr 1
  exact Array.toList_inj.1 e
structure Fd where
  nm : ByteArray
  bits : Int
  low : Int
def Fd.cs (f : Fd) : List Value := [.string f.nm, .int .i64 f.bits, .int .i64 f.low]
def fdCs (l : List Fd) : List Value := l.flatMap Fd.cs
def fieldF (f : Fd) : Int := if nameF f.nm = true ∧ 1 ≤ f.bits ∧ f.bits ≤ 32 ∧ -4294967296 ≤ f.low ∧ f.low ≤ 4294967296 then 0 else 3
structure Kd where
  nm : ByteArray
  A : Option Addr
  n : Nat
  c : Nat
  fds : List Fd
def Kd.cs (k : Kd) : List Value := [.string k.nm, .slice k.A k.n k.c]
def kdCs (l : List Kd) : List Value := l.flatMap Kd.cs
structure KdOk (w : World) (B : Nat) (k : Kd) : Prop where
  rd : Rd w B 3 k.A k.n (fdCs k.fds)
  len : k.n = k.fds.length
  cap : k.n ≤ k.c
  cap2 : k.c ≤ 9223372036854775807
theorem KdOk.below {w w' : World} {B : Nat} {k : Kd} (h : KdOk w B k) (hb : Below B w w') : KdOk w' B k := ⟨h.rd.below hb, h.len, h.cap, h.cap2⟩
def Kd.p (k : Kd) : ByteArray × List Fd := (k.nm, k.fds)
theorem fdCs_get (l : List Fd) (k j : Nat) (f : Fd) (h : l[k]? = some f) (hj : j < 3) : (fdCs l)[k * 3 + j]? = (Fd.cs f)[j]? := by
  induction l generalizing k with
  | nil => simp at h
  | cons a l ih =>
    cases k with
    | zero =>
      simp at h; subst h
      simp only [fdCs, List.flatMap_cons, Nat.zero_mul, Nat.zero_add]
      rw [List.getElem?_append_left (by simp [Fd.cs]; omega)]
    | succ k =>
      simp at h
      have := ih k h
      simp only [fdCs, List.flatMap_cons] at this ⊢
      rw [List.getElem?_append_right (by simp [Fd.cs]; omega)]
      rw [show (k + 1) * 3 + j - (Fd.cs a).length = k * 3 + j by simp [Fd.cs]; omega]
      exact this
theorem kdCs_get (l : List Kd) (k j : Nat) (f : Kd) (h : l[k]? = some f) (hj : j < 2) : (kdCs l)[k * 2 + j]? = (Kd.cs f)[j]? := by
  induction l generalizing k with
  | nil => simp at h
  | cons a l ih =>
    cases k with
    | zero =>
      simp at h; subst h
      simp only [kdCs, List.flatMap_cons, Nat.zero_mul, Nat.zero_add]
      rw [List.getElem?_append_left (by simp [Kd.cs]; omega)]
    | succ k =>
      simp at h
      have := ih k h
      simp only [kdCs, List.flatMap_cons] at this ⊢
      rw [List.getElem?_append_right (by simp [Kd.cs]; omega)]
      rw [show (k + 1) * 2 + j - (Kd.cs a).length = k * 2 + j by simp [Kd.cs]; omega]
      exact this
/-- The cells of the element k. -/
theorem Rd.fd {w : World} {B n : Nat} {A : Option Addr} {l : List Fd} {k : Nat} {f : Fd} (h : Rd w B 3 A n (fdCs l)) (hk : k < n) (hf : l[k]? = some f) :
    ∃ b o, A = some ⟨b, o, none⟩ ∧ b < B ∧ w.cell? ⟨b, o + k * 3, none⟩ = some (.string f.nm) ∧ w.cell? ⟨b, o + k * 3 + 1, none⟩ = some (.int .i64 f.bits) ∧ w.cell? ⟨b, o + k * 3 + 2, none⟩ = some (.int .i64 f.low) := by
  obtain ⟨b, o, e, hb, hc⟩ := h.2 (by omega)
  exact ⟨b, o, e, hb, hc (k * 3) _ ((fdCs_get l k 0 f hf (by omega)).trans rfl), by rw [Nat.add_assoc]; exact hc (k * 3 + 1) _ ((fdCs_get l k 1 f hf (by omega)).trans rfl), by rw [Nat.add_assoc]; exact hc (k * 3 + 2) _ ((fdCs_get l k 2 f hf (by omega)).trans rfl)⟩
theorem Rd.kd {w : World} {B n : Nat} {A : Option Addr} {l : List Kd} {k : Nat} {f : Kd} (h : Rd w B 2 A n (kdCs l)) (hk : k < n) (hf : l[k]? = some f) :
    ∃ b o, A = some ⟨b, o, none⟩ ∧ b < B ∧ w.cell? ⟨b, o + k * 2, none⟩ = some (.string f.nm) ∧ w.cell? ⟨b, o + k * 2 + 1, none⟩ = some (.slice f.A f.n f.c) := by
  obtain ⟨b, o, e, hb, hc⟩ := h.2 (by omega)
  exact ⟨b, o, e, hb, hc (k * 2) _ ((kdCs_get l k 0 f hf (by omega)).trans rfl), by rw [Nat.add_assoc]; exact hc (k * 2 + 1) _ ((kdCs_get l k 1 f hf (by omega)).trans rfl)⟩
theorem field_any (f : Fd) (w : World) : Calls Try.prog 209 #[.agg #[.string f.nm, .int .i64 f.bits, .int .i64 f.low]] w fun e w' => e = .returned (.int .i64 (fieldF f)) ∧ Below w.heap.size w w' := by
  have HNM := Lib.hid (fun wx => name_any f.nm wx)
  obtain ⟨R, hR⟩ : ∃ R, R = fieldF f := ⟨_, rfl⟩
  have hR2 := hR
  unfold fieldF at hR
  rw [← hR2]
  generalize f.nm = nm at *
  generalize f.bits = bits at *
  generalize f.low = low at *
  have HB := Lib.hid ((Below.refl w.heap.size w).alloc (Nat.le_refl _) (.cells #[.string nm, .int .i64 bits, .int .i64 low] 66))
  have HR := Lib.hid hR
  clear hR hR2
  go_enter Try.func209, Try.ntmps209
  go_wp2_with fail
  refine (HNM.out _).mono ?_
  rintro e w1 ⟨rfl, rfl⟩
  cases hn : nameF nm
  · go_wp2_with fail
    go_ret
    rw [HR.out, if_neg (by simp [hn])]
    exact ⟨rfl, HB.out⟩
  · go_wp2_with fail
    all_goals
      go_ret
      rw [HR.out]
      first
        | (rw [if_pos ⟨hn, by omega, by omega, by omega, by omega⟩]; exact ⟨rfl, HB.out⟩)
        | (rw [if_neg (fun h => by omega)]; exact ⟨rfl, HB.out⟩)
/-! ### Kc -/
def scanF : List Fd → List Fd → Int
  | _, [] => 0
  | seen, f :: r => if fieldF f ≠ 0 then fieldF f else if seen.any (fun o => decide (o.nm = f.nm)) then 5 else scanF (seen ++ [f]) r
def oneF (nm : ByteArray) (fds : List Fd) : Int := if nameF nm = false then 3 else if 8 < fds.length then 2 else scanF [] fds
theorem scanF_at {seen r : List Fd} {f : Fd} : scanF seen (f :: r) = if fieldF f ≠ 0 then fieldF f else if seen.any (fun o => decide (o.nm = f.nm)) then 5 else scanF (seen ++ [f]) r := rfl
set_option maxHeartbeats 1600000 in
theorem one_any (nm : ByteArray) (A : Option Addr) (n c B : Nat) (fds : List Fd) (w : World) (hr : Rd w B 3 A n (fdCs fds)) (hn : n = fds.length) (hc : n ≤ c) (_hc2 : c ≤ 9223372036854775807) (hB : B ≤ w.heap.size) :
    Calls Try.prog 161 #[.agg #[.string nm, .slice A n c]] w fun e w' => e = .returned (.int .i64 (oneF nm fds)) ∧ Below w.heap.size w w' := by
  obtain ⟨R, hR⟩ : ∃ R, R = oneF nm fds := ⟨_, rfl⟩
  rw [← hR]
  have HNM := Lib.hid (fun wx => name_any nm wx)
  have HR := Lib.hid hR
  have HN := Lib.hid hn
  have HRD := Lib.hid hr
  have HBB := Lib.hid hB
  obtain ⟨w1, hw1⟩ : ∃ w1, w1 = w.alloc (.cells #[.string nm, .slice A n c] 63) := ⟨_, rfl⟩
  have hk1 : Bk w1 w.heap.size 63 #[.string nm, .slice A n c] := by rw [hw1]; exact Bk.new _ _ _
  have hb1 : Below w.heap.size w w1 := by rw [hw1]; exact (Below.refl _ w).alloc (Nat.le_refl _) _
  have hs1 : w1.heap.size = w.heap.size + 1 := by rw [hw1]; simp
  have HK1 := Lib.hid hk1
  have HB1 := Lib.hid hb1
  have HS1 := Lib.hid hs1
  have k0 : w1.cell? ⟨w.heap.size, 0, none⟩ = some (.string nm) := hk1.cell 0
  have k1 : w1.cell? ⟨w.heap.size, 1, none⟩ = some (.slice A n c) := hk1.cell 1
  clear hr hn hR hk1 hb1 hB hs1
  go_enter Try.func161, Try.ntmps161
  go_wp2_with fail
  rw [← hw1]
  clear hw1
  refine (HNM.out _).mono ?_
  rintro e w2 ⟨rfl, rfl⟩
  cases hnm : nameF nm
  · go_wp2_with fail
    go_ret
    rw [HR.out, oneF, if_pos hnm]
    exact ⟨rfl, HB1.out⟩
  · by_cases h8 : 8 < n
    · have h8z : (8 : Int) < n := by omega
      go_wp2_with fail
      go_ret
      rw [HR.out, oneF, if_neg (by simp [hnm]), if_pos (by rw [← HN.out]; exact h8)]
      exact ⟨rfl, HB1.out⟩
    · have h8z : ¬ (8 : Int) < n := by omega
      have hR2 : Hid (R = scanF [] fds) := Lib.hid (by rw [HR.out, oneF, if_neg (by simp [hnm]), if_neg (by rw [← HN.out]; exact h8)])
      clear HR HNM
      go_wp2_with fail
      go_loopg [19] n (fun g v wr => ∃ k : Nat, k ≤ n ∧ g = n - k ∧ v = .int .i64 k ∧ Hid (R = scanF (fds.take k) (fds.drop k)) ∧ Hid (Below w1.heap.size w1 wr))
      case atStart => exact ⟨0, Nat.zero_le _, rfl, rfl, Lib.hid (by rw [hR2.out]; rfl), Lib.hid (Below.refl _ _)⟩
      case round =>
        obtain ⟨k, hk, rfl, rfl, HRK, HW⟩ := hrel
        obtain ⟨wk, rfl⟩ : ∃ wk, wk = wr := ⟨wr, rfl⟩
        clear hR2 k0 k1
        have hkr := HK1.out.below HW.out (by have := HS1.out; omega)
        have k0 : wk.cell? ⟨w.heap.size, 0, none⟩ = some (.string nm) := hkr.cell 0
        have k1 : wk.cell? ⟨w.heap.size, 1, none⟩ = some (.slice A n c) := hkr.cell 1
        clear hkr
        by_cases hkn : k < n
        · obtain ⟨f, hf⟩ : ∃ f, fds[k]? = some f := ⟨_, List.getElem?_eq_getElem (by have := HN.out; omega)⟩
          have hrw : Rd wk B 3 A n (fdCs fds) := (HRD.out.below (HB1.out.mono HBB.out)).below (HW.out.mono (by have := HS1.out; have := HBB.out; omega))
          obtain ⟨b, o, hA, hbB, c0, c1, c2⟩ := hrw.fd hkn hf
          subst hA
          have HRW := Lib.hid hrw
          have hdr : fds.drop k = f :: fds.drop (k + 1) := by
            rw [List.drop_eq_getElem_cons (by have := HN.out; omega)]
            congr 1
            exact (List.getElem?_eq_some_iff.1 hf).2
          have htk : fds.take (k + 1) = fds.take k ++ [f] := by rw [List.take_add_one, hf]; rfl
          have HRK2 : Hid (R = if fieldF f ≠ 0 then fieldF f else if (fds.take k).any (fun o => decide (o.nm = f.nm)) then 5 else scanF (fds.take (k + 1)) (fds.drop (k + 1))) := Lib.hid (by rw [HRK.out, hdr, scanF_at, htk])
          have hkz : (k : Int) < n := by omega
          have hkz0 : (0 : Int) ≤ k := by omega
          have HFA := Lib.hid (fun wx => field_any f wx)
          have hlt : w.heap.size < wk.heap.size := by have := HW.out.size; have := HS1.out; omega
          have HF := Lib.hid hf
          clear hrw hdr htk HRK hf
          generalize hnm' : f.nm = fn at *
          generalize f.bits = fb at *
          generalize f.low = fl at *
          go_wp2_with fail
          refine (HFA.out _).mono ?_
          rintro e w3 ⟨rfl, hb3⟩
          obtain ⟨v, hv⟩ : ∃ v, v = fieldF f := ⟨_, rfl⟩
          rw [← hv] at HRK2 ⊢
          clear hv HFA
          have hkv : Bk w3 wk.heap.size 66 #[.string fn, .int .i64 fb, .int .i64 fl] := (Bk.new wk 66 #[.string fn, .int .i64 fb, .int .i64 fl]).below hb3 (by simp)
          have hw3 : Below w1.heap.size w1 w3 := HW.out.trans (((Below.refl wk.heap.size wk).alloc (Nat.le_refl _) (.cells #[.string fn, .int .i64 fb, .int .i64 fl] 66) |>.trans (hb3.mono (by simp))).mono HW.out.size)
          have hs3 : wk.heap.size < w3.heap.size := hkv.lt
          have HKV := Lib.hid hkv
          have HW3 := Lib.hid hw3
          have HFIN : Hid (∀ wx, Below w3.heap.size w3 wx → Below w.heap.size w wx) := Lib.hid fun wx hx => (HB1.out.trans (hw3.mono (by have := HS1.out; omega))).trans (hx.mono (by have := HW.out.size; have := HS1.out; omega))
          have HB3 := Lib.hid (hb3.mono (B' := wk.heap.size) (by simp))
          have HBW : Hid (B ≤ wk.heap.size) := Lib.hid (by have := HW.out.size; have := HS1.out; have := HBB.out; omega)
          clear hb3 hkv hw3
          by_cases hv0 : v = 0
          · subst hv0
            have HRK3 : Hid (R = if (fds.take k).any (fun o => decide (o.nm = fn)) then 5 else scanF (fds.take (k + 1)) (fds.drop (k + 1))) := Lib.hid (by rw [HRK2.out, if_neg (by simp)])
            have hk1' : w3.cell? ⟨w.heap.size, 1, none⟩ = some (.slice (some ⟨b, o, none⟩) n c) := (HK1.out.below HW3.out (by have := HS1.out; omega)).cell 1
            clear HRK2 c0 c1 c2 k0 k1
            go_wp2_with fail
            go_loopg [34] k (fun g v wi => ∃ j : Nat, j ≤ k ∧ g = k - j ∧ v = .int .i64 j ∧ Hid (∀ i, i < j → ∀ x, fds[i]? = some x → x.nm ≠ fn) ∧ Hid (Below w3.heap.size w3 wi))
            case atStart => exact ⟨0, Nat.zero_le _, rfl, rfl, Lib.hid (fun i hi => by omega), Lib.hid (Below.refl _ _)⟩
            case round =>
              obtain ⟨j, hj, rfl, rfl, HNE, HI⟩ := hrel
              obtain ⟨wi, rfl⟩ : ∃ wi, wi = wr := ⟨wr, rfl⟩
              have hkv : Bk wi wk.heap.size 66 #[.string fn, .int .i64 fb, .int .i64 fl] := HKV.out.below HI.out hs3
              have HKVI := Lib.hid hkv
              clear hkv
              by_cases hjk : j < k
              · obtain ⟨g, hg⟩ : ∃ g, fds[j]? = some g := ⟨_, List.getElem?_eq_getElem (by have := HN.out; omega)⟩
                have hri : Rd wi B 3 (some ⟨b, o, none⟩) n (fdCs fds) := HRW.out.below (((((Below.refl wk.heap.size wk).alloc (Nat.le_refl _) (.cells #[.string fn, .int .i64 fb, .int .i64 fl] 66)).trans HB3.out).trans (HI.out.mono (by omega))).mono HBW.out)
                obtain ⟨b', o', hA', _, d0, d1, d2⟩ := hri.fd (show j < n by omega) hg
                obtain ⟨rfl, rfl⟩ : b' = b ∧ o' = o := by injection hA' with hA'; injection hA' with h1 h2; exact ⟨h1.symm, h2.symm⟩
                have hjz : (j : Int) < k := by omega
                have HG := Lib.hid hg
                clear hri hg hA'
                generalize hgn : g.nm = gn at *
                generalize g.bits = gb at *
                generalize g.low = gl at *
                have HGN := Lib.hid hgn
                clear hgn
                have v1 : (wi.alloc (.cells #[.string gn, .int .i64 gb, .int .i64 gl] 66)).cell? ⟨wk.heap.size, 0, none⟩ = some (.string fn) := (HKVI.out.alloc _).cell 0
                by_cases hgf : gn = fn
                · subst hgf
                  go_wp2_with fail
                  go_ret
                  have hany : (fds.take k).any (fun o => decide (o.nm = gn)) = true := by
                    rw [List.any_eq_true]
                    refine ⟨g, List.mem_of_getElem? (i := j) ?_, by simp [HGN.out]⟩
                    rw [List.getElem?_take, if_pos hjk]; exact HG.out
                  rw [HRK3.out, if_pos hany]
                  exact ⟨rfl, HFIN.out _ (HI.out.alloc HI.out.size _)⟩
                · have hgb : (gn == fn) = false := ba_beq_ne hgf
                  have hgl : (gn.toList == fn.toList) = false := ba_tl_ne hgf
                  have hgd : decide (gn = fn) = false := decide_eq_false hgf
                  go_wp2_with fail
                  go_roundg (k - (j + 1))
                  case measure => omega
                  case rel => exact ⟨j + 1, by omega, rfl, by go_num, Lib.hid fun i hi x hx => by
                    rcases Nat.lt_or_ge i j with h | h
                    · exact HNE.out i h x hx
                    · obtain rfl : i = j := by omega
                      rw [HG.out] at hx
                      injection hx with hx
                      rw [← hx, HGN.out]; exact hgf, Lib.hid (HI.out.alloc HI.out.size _)⟩
              · obtain rfl : j = k := by omega
                go_wp2_with fail
                go_roundg (n - (j + 1))
                case measure => omega
                case rel =>
                  have hany : (fds.take j).any (fun o => decide (o.nm = fn)) = false := by
                    rw [List.any_eq_false]
                    intro x hx
                    obtain ⟨i, hi⟩ := List.mem_iff_getElem?.1 hx
                    rw [List.getElem?_take] at hi
                    split at hi
                    · rename_i hlt
                      simp [HNE.out i hlt x hi]
                    · cases hi
                  exact ⟨j + 1, by omega, rfl, by go_num, Lib.hid (by rw [HRK3.out, if_neg (by rw [hany]; simp)]), Lib.hid (HW3.out.trans (HI.out.mono (by have := HW.out.size; omega)))⟩
          · have hvb : (v != 0) = true := by simp [hv0]
            go_wp2_with fail
            go_ret
            rw [HRK2.out, if_pos hv0]
            exact ⟨rfl, HFIN.out _ (Below.refl _ _)⟩
        · obtain rfl : k = n := by omega
          go_wp2_with fail
          go_ret
          rw [HRK.out, List.drop_eq_nil_of_le (by rw [← HN.out]; exact Nat.le_refl _)]
          exact ⟨rfl, HB1.out.trans (HW.out.mono (by have := HS1.out; omega))⟩
/-! ### Kd -/
/-- The index of the first name that is equal, or -1. -/
def findF (l : List ByteArray) (nm : ByteArray) : Int := match l.findIdx? (fun x => decide (x = nm)) with
  | some i => i
  | none => -1
theorem findF_hit {l : List ByteArray} {nm : ByteArray} {k : Nat} (hk : l[k]? = some nm) (h : ∀ i, i < k → ∀ x, l[i]? = some x → x ≠ nm) : findF l nm = k := by
  unfold findF
  have : l.findIdx? (fun x => decide (x = nm)) = some k := by
    rw [List.findIdx?_eq_some_iff_getElem]
    obtain ⟨h1, h2⟩ := List.getElem?_eq_some_iff.1 hk
    exact ⟨h1, by simp [h2], fun j hj => by simpa using h j hj _ (List.getElem?_eq_getElem (by omega))⟩
  rw [this]
theorem findF_none {l : List ByteArray} {nm : ByteArray} (h : ∀ i, i < l.length → ∀ x, l[i]? = some x → x ≠ nm) : findF l nm = -1 := by
  unfold findF
  have : l.findIdx? (fun x => decide (x = nm)) = none := by
    rw [List.findIdx?_eq_none_iff]
    intro x hx
    obtain ⟨i, hi⟩ := List.mem_iff_getElem?.1 hx
    exact decide_eq_false (h i (List.getElem?_eq_some_iff.1 hi).1 x hi)
  rw [this]
theorem findF_nonneg {l : List ByteArray} {nm : ByteArray} : 0 ≤ findF l nm ↔ l.any (fun x => decide (x = nm)) = true := by
  unfold findF
  cases h : l.findIdx? (fun x => decide (x = nm)) with
  | some i =>
    have := (List.findIdx?_eq_some_iff_getElem.1 h)
    obtain ⟨h1, h2, _⟩ := this
    refine ⟨fun _ => List.any_eq_true.2 ⟨l[i], List.getElem_mem h1, h2⟩, fun _ => Int.natCast_nonneg i⟩
  | none =>
    rw [List.findIdx?_eq_none_iff] at h
    refine ⟨fun h2 => by simp at h2, fun h2 => ?_⟩
    obtain ⟨x, hx, hd⟩ := List.any_eq_true.1 h2
    rw [h x hx] at hd; cases hd
set_option maxHeartbeats 800000 in
theorem find_any (A : Option Addr) (n c B : Nat) (ks : List Kd) (nm : ByteArray) (w : World) (hr : Rd w B 2 A n (kdCs ks)) (hn : n = ks.length) (hc : n ≤ c) (hc2 : c ≤ 9223372036854775807) (hB : B ≤ w.heap.size) :
    Calls Try.prog 162 #[.slice A n c, .string nm] w fun e w' => e = .returned (.int .i64 (findF (ks.map Kd.nm) nm)) ∧ Below w.heap.size w w' := by
  obtain ⟨R, hR⟩ : ∃ R, R = findF (ks.map Kd.nm) nm := ⟨_, rfl⟩
  rw [← hR]
  have HR := Lib.hid hR
  have HN := Lib.hid hn
  have HRD := Lib.hid hr
  have HBB := Lib.hid hB
  clear hr hn hR hB
  go_enter Try.func162, Try.ntmps162
  go_wp2_with fail
  go_loopg [9] n (fun g v wr => ∃ k : Nat, k ≤ n ∧ g = n - k ∧ v = .int .i64 k ∧ Hid (∀ i, i < k → ∀ x, (ks.map Kd.nm)[i]? = some x → x ≠ nm) ∧ Hid (Below w.heap.size w wr))
  case atStart => exact ⟨0, Nat.zero_le _, rfl, rfl, Lib.hid (fun i hi => by omega), Lib.hid (Below.refl _ _)⟩
  case round =>
    obtain ⟨k, hk, rfl, rfl, HNE, HW⟩ := hrel
    by_cases hkn : k < n
    · obtain ⟨f, hf⟩ : ∃ f, ks[k]? = some f := ⟨_, List.getElem?_eq_getElem (by have := HN.out; omega)⟩
      have hrw : Rd wr B 2 A n (kdCs ks) := HRD.out.below (HW.out.mono HBB.out)
      obtain ⟨b, o, hA, hbB, c0, c1⟩ := hrw.kd hkn hf
      subst hA
      have HF : Hid ((ks.map Kd.nm)[k]? = some f.nm) := Lib.hid (by rw [List.getElem?_map, hf]; rfl)
      have hkz : (k : Int) < n := by omega
      have hkz0 : (0 : Int) ≤ k := by omega
      clear hrw hf
      generalize f.nm = fn at *
      generalize f.A = fA at *
      generalize f.n = fl at *
      generalize f.c = fc at *
      by_cases hgf : fn = nm
      · subst hgf
        go_wp2_with fail
        go_ret
        rw [HR.out, findF_hit HF.out HNE.out]
        exact ⟨rfl, HW.out.alloc HW.out.size _⟩
      · have hgb : (fn == nm) = false := ba_beq_ne hgf
        have hgl : (fn.toList == nm.toList) = false := ba_tl_ne hgf
        go_wp2_with fail
        go_roundg (n - (k + 1))
        case measure => omega
        case rel => exact ⟨k + 1, by omega, rfl, by go_num, Lib.hid fun i hi x hx => by
          rcases Nat.lt_or_ge i k with h | h
          · exact HNE.out i h x hx
          · obtain rfl : i = k := by omega
            rw [HF.out] at hx
            injection hx with hx
            rw [← hx]; exact hgf, Lib.hid (HW.out.alloc HW.out.size _)⟩
    · obtain rfl : k = n := by omega
      go_wp2_with fail
      go_ret
      rw [HR.out, findF_none fun i hi x hx => HNE.out i (by rw [List.length_map, ← HN.out] at hi; exact hi) x hx]
      exact ⟨rfl, HW.out⟩
/-! ### Ke -/
def chkF : List (ByteArray × List Fd) → List (ByteArray × List Fd) → Int
  | _, [] => 0
  | seen, k :: r => if oneF k.1 k.2 ≠ 0 then oneF k.1 k.2 else if (seen.map (·.1)).any (fun o => decide (o = k.1)) then 5 else chkF (seen ++ [k]) r
theorem chkF_at {seen r : List (ByteArray × List Fd)} {k : ByteArray × List Fd} : chkF seen (k :: r) = if oneF k.1 k.2 ≠ 0 then oneF k.1 k.2 else if (seen.map (·.1)).any (fun o => decide (o = k.1)) then 5 else chkF (seen ++ [k]) r := rfl
def checkF (l : List (ByteArray × List Fd)) : Int := if 16 < l.length then 2 else chkF [] l
theorem kdCs_length (l : List Kd) : (kdCs l).length = l.length * 2 := by
  induction l with
  | nil => rfl
  | cons a l ih => simp only [kdCs, List.flatMap_cons] at ih ⊢; rw [List.length_append, ih]; simp [Kd.cs]; omega
theorem kdCs_take (l : List Kd) (k : Nat) : kdCs (l.take k) = (kdCs l).take (k * 2) := by
  induction l generalizing k with
  | nil => simp [kdCs]
  | cons a l ih =>
    cases k with
    | zero => simp [kdCs]
    | succ k =>
      have := ih k
      simp only [kdCs, List.take_succ_cons, List.flatMap_cons] at this ⊢
      rw [this, show (k + 1) * 2 = (Kd.cs a).length + k * 2 by simp [Kd.cs]; omega, List.take_length_add_append]
theorem Rd.takeK {w : World} {B n k : Nat} {A : Option Addr} {l : List Kd} (h : Rd w B 2 A n (kdCs l)) (hk : k ≤ n) (hn : n = l.length) : Rd w B 2 A k (kdCs (l.take k)) := by
  refine ⟨by rw [kdCs_length, List.length_take]; omega, fun h0 => ?_⟩
  obtain ⟨b, o, e, hb, hc⟩ := h.2 (by omega)
  refine ⟨b, o, e, hb, fun j u hu => hc j u ?_⟩
  rw [kdCs_take, List.getElem?_take] at hu
  split at hu
  · exact hu
  · cases hu
set_option maxHeartbeats 1600000 in
theorem check_any (A : Option Addr) (n c B : Nat) (ks : List Kd) (w : World) (hr : Rd w B 2 A n (kdCs ks)) (hn : n = ks.length) (hc : n ≤ c) (hc2 : c ≤ 9223372036854775807) (hks : ∀ k ∈ ks, KdOk w B k) (hB : B ≤ w.heap.size) :
    Calls Try.prog 94 #[.slice A n c] w fun e w' => e = .returned (.int .i64 (checkF (ks.map Kd.p))) ∧ Below w.heap.size w w' := by
  obtain ⟨R, hR⟩ : ∃ R, R = checkF (ks.map Kd.p) := ⟨_, rfl⟩
  rw [← hR]
  have HN := Lib.hid hn
  have HRD := Lib.hid hr
  have HBB := Lib.hid hB
  have HKS := Lib.hid hks
  by_cases h16 : 16 < n
  · have h16z : (16 : Int) < n := by omega
    have HR : Hid (R = 2) := Lib.hid (by rw [hR, checkF, if_pos (by rw [List.length_map, ← hn]; exact h16)])
    clear hr hn hR hB hks h16
    go_enter Try.func94, Try.ntmps94
    go_wp2_with fail
    go_ret
    rw [HR.out]
    exact ⟨rfl, Below.refl _ _⟩
  · have h16z : ¬ (16 : Int) < n := by omega
    have HR : Hid (R = chkF [] (ks.map Kd.p)) := Lib.hid (by rw [hR, checkF, if_neg (by rw [List.length_map, ← hn]; exact h16)])
    clear hr hn hR hB hks
    go_enter Try.func94, Try.ntmps94
    go_wp2_with fail
    go_loopg [11] n (fun g v wr => ∃ k : Nat, k ≤ n ∧ g = n - k ∧ v = .int .i64 k ∧ Hid (R = chkF ((ks.map Kd.p).take k) ((ks.map Kd.p).drop k)) ∧ Hid (Below w.heap.size w wr))
    case atStart => exact ⟨0, Nat.zero_le _, rfl, rfl, Lib.hid (by rw [HR.out]; rfl), Lib.hid (Below.refl _ _)⟩
    case round =>
      obtain ⟨k, hk, rfl, rfl, HRK, HW⟩ := hrel
      clear HR
      by_cases hkn : k < n
      · obtain ⟨f, hf⟩ : ∃ f, ks[k]? = some f := ⟨_, List.getElem?_eq_getElem (by have := HN.out; omega)⟩
        have hrw : Rd wr B 2 A n (kdCs ks) := HRD.out.below (HW.out.mono HBB.out)
        obtain ⟨b, o, hA, hbB, c0, c1⟩ := hrw.kd hkn hf
        subst hA
        have hfp : (ks.map Kd.p)[k]? = some f.p := by rw [List.getElem?_map, hf]; rfl
        have hdr : (ks.map Kd.p).drop k = f.p :: (ks.map Kd.p).drop (k + 1) := by
          rw [List.drop_eq_getElem_cons (by rw [List.length_map]; have := HN.out; omega)]
          congr 1
          exact (List.getElem?_eq_some_iff.1 hfp).2
        have htk : (ks.map Kd.p).take (k + 1) = (ks.map Kd.p).take k ++ [f.p] := by rw [List.take_add_one, hfp]; rfl
        have HRK2 : Hid (R = if oneF f.nm f.fds ≠ 0 then oneF f.nm f.fds else if (((ks.map Kd.p).take k).map (·.1)).any (fun o => decide (o = f.nm)) then 5 else chkF ((ks.map Kd.p).take (k + 1)) ((ks.map Kd.p).drop (k + 1))) := Lib.hid (by rw [HRK.out, hdr, chkF_at, htk]; rfl)
        have hfk := (HKS.out f (List.mem_of_getElem? hf)).below (HW.out.mono HBB.out)
        have hw4 := (Below.refl wr.heap.size wr).alloc (Nat.le_refl _) (.cells #[.string f.nm, .slice f.A f.n f.c] 63)
        have hone := one_any f.nm f.A f.n f.c B f.fds (wr.alloc (.cells #[.string f.nm, .slice f.A f.n f.c] 63)) ((hfk.below (hw4.mono (Nat.le_trans HBB.out HW.out.size))).rd) hfk.len hfk.cap hfk.cap2 (by have := HW.out.size; have := HBB.out; simp; omega)
        have HONE := Lib.hid hone
        have hkz : (k : Int) < n := by omega
        have hkz0 : (0 : Int) ≤ k := by omega
        have hkc : (k : Int) ≤ c := by omega
        obtain ⟨v, hv⟩ : ∃ v, v = oneF f.nm f.fds := ⟨_, rfl⟩
        rw [← hv] at HRK2 HONE
        clear hrw hdr htk hfp hfk hw4 hone hv HRK hf
        generalize f.nm = fn at *
        generalize f.A = fA at *
        generalize f.n = fl at *
        generalize f.c = fc at *
        go_wp2_with fail
        refine HONE.out.mono ?_
        rintro e w3 ⟨rfl, hb3⟩
        have hk3 : Bk w3 wr.heap.size 63 #[.string fn, .slice fA fl fc] := (Bk.new wr 63 #[.string fn, .slice fA fl fc]).below hb3 (by simp)
        have hb4 : Below w.heap.size w w3 := (HW.out.alloc HW.out.size (.cells #[.string fn, .slice fA fl fc] 63)).trans (hb3.mono (by have := HW.out.size; simp; omega))
        have s3 : w3.drew.cell? ⟨wr.heap.size, 0, none⟩ = some (.string fn) := hk3.cell 0
        have HB4 := Lib.hid hb4
        have HK3 := Lib.hid hk3
        have hb4d : Below w.heap.size w w3.drew := hb4.drew
        have hfi := find_any (some ⟨b, o, none⟩) k c B (ks.take k) fn w3.drew ((HRD.out.below (hb4d.mono HBB.out)).takeK (by omega) HN.out) (by rw [List.length_take]; have := HN.out; omega) (by omega) hc2 (Nat.le_trans HBB.out hb4d.size)
        have HFI := Lib.hid hfi
        clear hb3 hb4 hk3 hb4d hfi c0 c1
        by_cases hv0 : v = 0
        · subst hv0
          have HRK3 : Hid (R = if (((ks.map Kd.p).take k).map (·.1)).any (fun o => decide (o = fn)) then 5 else chkF ((ks.map Kd.p).take (k + 1)) ((ks.map Kd.p).drop (k + 1))) := Lib.hid (by rw [HRK2.out, if_neg (by simp)])
          have hnms : ((ks.map Kd.p).take k).map (·.1) = (ks.take k).map Kd.nm := by rw [← List.map_take, List.map_map]; rfl
          rw [hnms] at HRK3
          have HNN := Lib.hid (findF_nonneg (l := (ks.take k).map Kd.nm) (nm := fn))
          clear HRK2 hnms
          generalize hff : findF ((ks.take k).map Kd.nm) fn = ff at *
          go_wp2_with fail
          go_region_held3 (fun w' => w'.cell? ⟨wr.heap.size, 0, none⟩ = some (.string fn)) (first | (with_reducible exact s3) | (with_reducible exact s4) | go_keep)
            (first
              | (go_at_call 162
                 (with_reducible refine HFI.out.mono ?_)
                 rintro e w4 ⟨rfl, hb5⟩
                 have s4 : w4.cell? ⟨wr.heap.size, 0, none⟩ = some (.string fn) := (hb5.cell (p := ⟨wr.heap.size, 0, none⟩) HK3.out.lt).trans s3
                 have HB5 := Lib.hid hb5
                 clear hb5))
          have hb6 : Below w.heap.size w w4 := HB4.out.drew.trans (HB5.out.mono HB4.out.size)
          by_cases hff0 : 0 ≤ ff
          · go_wp2_with fail
            go_ret
            rw [HRK3.out, if_pos (HNN.out.1 hff0)]
            exact ⟨rfl, hb6⟩
          · have hffz : ff < 0 := by omega
            go_wp2_with fail
            go_roundg (n - (k + 1))
            case measure => omega
            case rel => exact ⟨k + 1, by omega, rfl, by go_num, Lib.hid (by rw [HRK3.out, if_neg (fun h => by have := HNN.out.2 h; omega)]), Lib.hid hb6⟩
        · have hvb : (v != 0) = true := by simp [hv0]
          go_wp2_with fail
          go_ret
          rw [HRK2.out, if_pos hv0]
          exact ⟨rfl, HB4.out⟩
      · obtain rfl : k = n := by omega
        go_wp2_with fail
        go_ret
        rw [HRK.out, List.drop_eq_nil_of_le (by rw [List.length_map, ← HN.out]; exact Nat.le_refl _)]
        exact ⟨rfl, HW.out⟩
/-! ### Kf -/
theorem clo164_any (fn nm : ByteArray) (fA : Option Addr) (fl fc gb : Nat) (w : World) (hb : w.cell? ⟨gb, 0, none⟩ = some (.string nm)) (hgb : gb < w.heap.size) :
    Calls Try.prog 164 #[.agg #[.string fn, .slice fA fl fc], .pointer (some ⟨gb, 0, none⟩)] w fun e w' => e = .returned (.bool (decide (fn = nm))) ∧ Below w.heap.size w w' := by
  have hb1 : (w.alloc (.cells #[.string fn, .slice fA fl fc] 63)).cell? ⟨gb, 0, none⟩ = some (.string nm) := (((Below.refl w.heap.size w).alloc (Nat.le_refl _) _).cell (p := ⟨gb, 0, none⟩) hgb).trans hb
  have HB := Lib.hid ((Below.refl w.heap.size w).alloc (Nat.le_refl _) (.cells #[.string fn, .slice fA fl fc] 63))
  by_cases h : fn = nm
  · subst h
    rw [decide_eq_true rfl]
    clear hb
    go_enter Try.func164, Try.ntmps164
    go_wp2_with fail
    go_ret
    exact ⟨by simp, HB.out⟩
  · have h1 : (fn == nm) = false := ba_beq_ne h
    have h2 : (fn.toList == nm.toList) = false := ba_tl_ne h
    rw [decide_eq_false h]
    clear hb
    go_enter Try.func164, Try.ntmps164
    go_wp2_with fail
    go_ret
    exact ⟨by simp, HB.out⟩
theorem indexK_any (A : Option Addr) (n c B gb : Nat) (ks : List Kd) (nm : ByteArray) (w : World) (hr : Rd w B 2 A n (kdCs ks)) (hn : n = ks.length) (hc : n ≤ c) (hc2 : c ≤ 9223372036854775807) (hB : B ≤ w.heap.size) (hb : w.cell? ⟨gb, 0, none⟩ = some (.string nm)) (hgb : gb < w.heap.size) :
    Calls Try.prog 163 #[.slice A n c, .func (.func 164) #[] #[.pointer (some ⟨gb, 0, none⟩)]] w fun e w' => e = .returned (.int .i64 (findF (ks.map Kd.nm) nm)) ∧ Below w.heap.size w w' := by
  obtain ⟨R, hR⟩ : ∃ R, R = findF (ks.map Kd.nm) nm := ⟨_, rfl⟩
  rw [← hR]
  have HR := Lib.hid hR
  have HN := Lib.hid hn
  have HRD := Lib.hid hr
  have HBB := Lib.hid hB
  have HB := Lib.hid hb
  clear hr hn hR hB
  go_enter Try.func163, Try.ntmps163
  go_wp2_with fail
  go_loopg [8] n (fun g v wr => ∃ k : Nat, k ≤ n ∧ g = n - k ∧ v = .int .i64 k ∧ Hid (∀ i, i < k → ∀ x, (ks.map Kd.nm)[i]? = some x → x ≠ nm) ∧ Hid (Below w.heap.size w wr))
  case atStart => exact ⟨0, Nat.zero_le _, rfl, rfl, Lib.hid (fun i hi => by omega), Lib.hid (Below.refl _ _)⟩
  case round =>
    obtain ⟨k, hk, rfl, rfl, HNE, HW⟩ := hrel
    clear hb
    by_cases hkn : k < n
    · obtain ⟨f, hf⟩ : ∃ f, ks[k]? = some f := ⟨_, List.getElem?_eq_getElem (by have := HN.out; omega)⟩
      have hrw : Rd wr B 2 A n (kdCs ks) := HRD.out.below (HW.out.mono HBB.out)
      obtain ⟨b, o, hA, hbB, c0, c1⟩ := hrw.kd hkn hf
      subst hA
      have HF : Hid ((ks.map Kd.nm)[k]? = some f.nm) := Lib.hid (by rw [List.getElem?_map, hf]; rfl)
      have hkz : (k : Int) < n := by omega
      have hkz0 : (0 : Int) ≤ k := by omega
      have HCL := Lib.hid (clo164_any f.nm nm f.A f.n f.c gb wr ((HW.out.cell (p := ⟨gb, 0, none⟩) hgb).trans HB.out) (Nat.lt_of_lt_of_le hgb HW.out.size))
      clear hrw hf
      generalize f.nm = fn at *
      generalize f.A = fA at *
      generalize f.n = fl at *
      generalize f.c = fc at *
      go_wp2_with fail
      refine HCL.out.mono ?_
      rintro e w2 ⟨rfl, hb2⟩
      have HW2 := Lib.hid (HW.out.trans (hb2.mono HW.out.size))
      clear hb2
      by_cases hgf : fn = nm
      · rw [decide_eq_true hgf]
        subst hgf
        go_wp2_with fail
        go_ret
        rw [HR.out, findF_hit HF.out HNE.out]
        exact ⟨rfl, HW2.out⟩
      · rw [decide_eq_false hgf]
        go_wp2_with fail
        go_roundg (n - (k + 1))
        case measure => omega
        case rel => exact ⟨k + 1, by omega, rfl, by go_num, Lib.hid fun i hi x hx => by
          rcases Nat.lt_or_ge i k with h | h
          · exact HNE.out i h x hx
          · obtain rfl : i = k := by omega
            rw [HF.out] at hx
            injection hx with hx
            rw [← hx]; exact hgf, HW2⟩
    · obtain rfl : k = n := by omega
      go_wp2_with fail
      go_ret
      rw [HR.out, findF_none fun i hi x hx => HNE.out i (by rw [List.length_map, ← HN.out] at hi; exact hi) x hx]
      exact ⟨rfl, HW.out⟩
theorem clo166_any (fn nm : ByteArray) (fb fl : Int) (w : World) :
    Calls Try.prog 166 #[.agg #[.string fn, .int .i64 fb, .int .i64 fl], .string nm] w fun e w' => e = .returned (.bool (decide (fn = nm))) ∧ Below w.heap.size w w' := by
  have HB := Lib.hid ((Below.refl w.heap.size w).alloc (Nat.le_refl _) (.cells #[.string fn, .int .i64 fb, .int .i64 fl] 66))
  by_cases h : fn = nm
  · subst h
    rw [decide_eq_true rfl]
    go_enter Try.func166, Try.ntmps166
    go_wp2_with fail
    go_ret
    exact ⟨by simp, HB.out⟩
  · have h1 : (fn == nm) = false := ba_beq_ne h
    have h2 : (fn.toList == nm.toList) = false := ba_tl_ne h
    rw [decide_eq_false h]
    go_enter Try.func166, Try.ntmps166
    go_wp2_with fail
    go_ret
    exact ⟨by simp, HB.out⟩
def strV (l : List ByteArray) : List Value := l.map Value.string
theorem strV_get {l : List ByteArray} {k : Nat} {s : ByteArray} (h : l[k]? = some s) : (strV l)[k]? = some (.string s) := by simp [strV, h]
set_option maxHeartbeats 800000 in
theorem equalFN_any (A SA : Option Addr) (n c m sc B : Nat) (fds : List Fd) (ns : List ByteArray) (w : World) (hr : Rd w B 3 A n (fdCs fds)) (hn : n = fds.length) (hc2 : n ≤ 9223372036854775807) (hs : Rd w B 1 SA m (strV ns)) (hm : m = ns.length) (hB : B ≤ w.heap.size) :
    Calls Try.prog 165 #[.slice A n c, .slice SA m sc, .func (.func 166) #[] #[]] w fun e w' => e = .returned (.bool (decide (fds.map Fd.nm = ns))) ∧ Below w.heap.size w w' := by
  obtain ⟨R, hR⟩ : ∃ R, R = decide (fds.map Fd.nm = ns) := ⟨_, rfl⟩
  rw [← hR]
  have HR := Lib.hid hR
  have HN := Lib.hid hn
  have HM := Lib.hid hm
  have HRD := Lib.hid hr
  have HSD := Lib.hid hs
  have HBB := Lib.hid hB
  clear hr hn hR hB hs hm
  by_cases hnm : n = m
  · subst hnm
    go_enter Try.func165, Try.ntmps165
    go_wp2_with fail
    go_loopg [17] n (fun g v wr => ∃ k : Nat, k ≤ n ∧ g = n - k ∧ v = .int .i64 k ∧ Hid (∀ i, i < k → (fds.map Fd.nm)[i]? = ns[i]?) ∧ Hid (Below w.heap.size w wr))
    case atStart => exact ⟨0, Nat.zero_le _, rfl, rfl, Lib.hid (fun i hi => by omega), Lib.hid (Below.refl _ _)⟩
    case round =>
      obtain ⟨k, hk, rfl, rfl, HE, HW⟩ := hrel
      by_cases hkn : k < n
      · obtain ⟨f, hf⟩ : ∃ f, fds[k]? = some f := ⟨_, List.getElem?_eq_getElem (by have := HN.out; omega)⟩
        obtain ⟨s, hs⟩ : ∃ s, ns[k]? = some s := ⟨_, List.getElem?_eq_getElem (by have := HM.out; omega)⟩
        have hrw : Rd wr B 3 A n (fdCs fds) := HRD.out.below (HW.out.mono HBB.out)
        have hsw : Rd wr B 1 SA n (strV ns) := HSD.out.below (HW.out.mono HBB.out)
        obtain ⟨b, o, hA, hbB, c0, c1, c2⟩ := hrw.fd hkn hf
        obtain ⟨sb, so, hSA, hsB, d0⟩ := hsw.at1 hkn (strV_get hs)
        subst hA hSA
        have HF : Hid ((fds.map Fd.nm)[k]? = some f.nm) := Lib.hid (by rw [List.getElem?_map, hf]; rfl)
        have HS := Lib.hid hs
        have hkz : (k : Int) < n := by omega
        have hkz0 : (0 : Int) ≤ k := by omega
        have d1 : (wr.alloc (.cells #[.string f.nm, .int .i64 f.bits, .int .i64 f.low] 66)).cell? ⟨sb, so + k, none⟩ = some (.string s) := (((Below.refl wr.heap.size wr).alloc (Nat.le_refl _) _).cell (p := ⟨sb, so + k, none⟩) (Nat.lt_of_lt_of_le hsB (Nat.le_trans HBB.out HW.out.size))).trans d0
        have HCL := Lib.hid (fun wx => clo166_any f.nm s f.bits f.low wx)
        clear hrw hsw hf hs d0
        generalize f.nm = fn at *
        generalize f.bits = fb at *
        generalize f.low = fl at *
        go_wp2_with fail
        refine (HCL.out _).mono ?_
        rintro e w2 ⟨rfl, hb2⟩
        have HW2 := Lib.hid ((HW.out.alloc HW.out.size (.cells #[.string fn, .int .i64 fb, .int .i64 fl] 66)).trans (hb2.mono (by have := HW.out.size; simp; omega)))
        clear hb2
        by_cases hgf : fn = s
        · rw [decide_eq_true hgf]
          go_wp2_with fail
          go_roundg (n - (k + 1))
          case measure => omega
          case rel => exact ⟨k + 1, by omega, rfl, by go_num, Lib.hid fun i hi => by
            rcases Nat.lt_or_ge i k with h | h
            · exact HE.out i h
            · obtain rfl : i = k := by omega
              rw [HF.out, HS.out, hgf], HW2⟩
        · rw [decide_eq_false hgf]
          go_wp2_with fail
          go_ret
          have hne : fds.map Fd.nm ≠ ns := fun e => by
            have h1 := HF.out
            rw [e, HS.out] at h1
            injection h1 with h1
            exact hgf h1.symm
          rw [HR.out, decide_eq_false hne]
          exact ⟨rfl, HW2.out⟩
      · obtain rfl : k = n := by omega
        go_wp2_with fail
        go_ret
        have he : fds.map Fd.nm = ns := by
          apply List.ext_getElem?
          intro i
          by_cases hi : i < k
          · exact HE.out i hi
          · rw [List.getElem?_eq_none (by rw [List.length_map, ← HN.out]; omega), List.getElem?_eq_none (by rw [← HM.out]; omega)]
        rw [HR.out, decide_eq_true he]
        exact ⟨rfl, HW.out⟩
  · have hz : ((n : Int) != m) = true := by simp; omega
    go_enter Try.func165, Try.ntmps165
    go_wp2_with fail
    go_ret
    have hne : fds.map Fd.nm ≠ ns := fun e => by
      have h1 := congrArg List.length e
      rw [List.length_map, ← HN.out, ← HM.out] at h1
      exact hnm h1
    rw [HR.out, decide_eq_false hne]
    exact ⟨rfl, Below.refl _ _⟩
/-! ### Kg -/
def bfindF (ks : List (ByteArray × List Fd)) (nm : ByteArray) (ns : List ByteArray) : Int × Int :=
  if findF (ks.map (·.1)) nm < 0 then (-1, 0) else
  match ks[(findF (ks.map (·.1)) nm).toNat]? with
  | some k => if k.2.map Fd.nm = ns then (findF (ks.map (·.1)) nm, 0) else (-1, 8)
  | none => (-1, 8)
theorem kdp_nm (ks : List Kd) : (ks.map Kd.p).map (·.1) = ks.map Kd.nm := by rw [List.map_map]; rfl
theorem findF_range (l : List ByteArray) (nm : ByteArray) : findF l nm = -1 ∨ ∃ i : Nat, findF l nm = i ∧ i < l.length := by
  unfold findF
  cases h : l.findIdx? (fun x => decide (x = nm)) with
  | some i => exact .inr ⟨i, rfl, (List.findIdx?_eq_some_iff_getElem.1 h).1⟩
  | none => exact .inl rfl
set_option maxHeartbeats 1600000 in
theorem bfind_any (A SA : Option Addr) (n c m sc B : Nat) (ks : List Kd) (nm : ByteArray) (ns : List ByteArray) (w : World) (hr : Rd w B 2 A n (kdCs ks)) (hn : n = ks.length) (hc : n ≤ c) (hc2 : c ≤ 9223372036854775807) (hks : ∀ k ∈ ks, KdOk w B k)
    (hs : Rd w B 1 SA m (strV ns)) (hm : m = ns.length) (hB : B ≤ w.heap.size) :
    Calls Try.prog 95 #[.slice A n c, .string nm, .slice SA m sc] w fun e w' => e = .returned (.tuple #[.int .i64 (bfindF (ks.map Kd.p) nm ns).1, .int .i64 (bfindF (ks.map Kd.p) nm ns).2]) ∧ Below w.heap.size w w' := by
  obtain ⟨R, hR⟩ : ∃ R, R = bfindF (ks.map Kd.p) nm ns := ⟨_, rfl⟩
  rw [← hR]
  obtain ⟨w1, hw1⟩ : ∃ w1, w1 = w.alloc (.cells #[.string nm] 9) := ⟨_, rfl⟩
  have hb1 : Below w.heap.size w w1 := by rw [hw1]; exact (Below.refl _ w).alloc (Nat.le_refl _) _
  have hbk : Bk w1 w.heap.size 9 #[.string nm] := by rw [hw1]; exact Bk.new _ _ _
  have hix := indexK_any A n c B w.heap.size ks nm w1 (hr.below (hb1.mono hB)) hn hc hc2 (Nat.le_trans hB hb1.size) (hbk.cell 0) hbk.lt
  have HIX := Lib.hid hix
  have HB1 := Lib.hid hb1
  have HR := Lib.hid hR
  have HN := Lib.hid hn
  have HM := Lib.hid hm
  have HRD := Lib.hid hr
  have HSD := Lib.hid hs
  have HKS := Lib.hid hks
  have HBB := Lib.hid hB
  have HW1 := Lib.hid hw1
  clear hr hn hR hB hks hs hm hb1 hbk hix
  go_enter Try.func95, Try.ntmps95
  go_wp2_with fail
  rw [← hw1]
  clear hw1
  refine HIX.out.mono ?_
  rintro e w2 ⟨rfl, hb2⟩
  have HB2 := Lib.hid (HB1.out.trans (hb2.mono HB1.out.size))
  clear hb2 HIX
  rcases findF_range (ks.map Kd.nm) nm with hf | ⟨i, hf, hi⟩
  · rw [hf]
    go_wp2_with fail
    go_ret2
    rw [HR.out, bfindF, kdp_nm, if_pos (by rw [hf]; decide)]
    exact ⟨rfl, HB2.out⟩
  · rw [hf]
    rw [List.length_map, ← HN.out] at hi
    obtain ⟨f, hfk⟩ : ∃ f, ks[i]? = some f := ⟨_, List.getElem?_eq_getElem (by have := HN.out; omega)⟩
    have hrw : Rd w2 B 2 A n (kdCs ks) := HRD.out.below (HB2.out.mono HBB.out)
    obtain ⟨b, o, hA, hbB, c0, c1⟩ := hrw.kd hi hfk
    subst hA
    have hfo := (HKS.out f (List.mem_of_getElem? hfk)).below (HB2.out.mono HBB.out)
    have heq := equalFN_any f.A SA f.n f.c m sc B f.fds ns w2 hfo.rd hfo.len (by have := hfo.cap; have := hfo.cap2; omega) (HSD.out.below (HB2.out.mono HBB.out)) HM.out (Nat.le_trans HBB.out HB2.out.size)
    have HEQ := Lib.hid heq
    have hR2 : R = if f.fds.map Fd.nm = ns then ((i : Int), 0) else (-1, 8) := by
      rw [HR.out, bfindF, kdp_nm, if_neg (by rw [hf]; omega), hf, Int.toNat_natCast, List.getElem?_map, hfk]
      rfl
    have HR2 := Lib.hid hR2
    have hiz : (i : Int) < n := by omega
    have hiz0 : (0 : Int) ≤ i := by omega
    have hizn : ¬ (i : Int) < 0 := by omega
    clear hfo heq hR2 hrw hfk hf HR
    generalize f.nm = fn at *
    generalize f.A = fA at *
    generalize f.n = fl at *
    generalize f.c = fc at *
    go_wp2_with fail
    refine HEQ.out.mono ?_
    rintro e w3 ⟨rfl, hb3⟩
    have HB3 := Lib.hid (HB2.out.trans (hb3.mono HB2.out.size))
    clear hb3
    by_cases he : f.fds.map Fd.nm = ns
    · rw [decide_eq_true he]
      go_wp2_with fail
      go_ret2
      rw [HR2.out, if_pos he]
      exact ⟨rfl, HB3.out⟩
    · rw [decide_eq_false he]
      go_wp2_with fail
      go_ret2
      rw [HR2.out, if_neg he]
      exact ⟨rfl, HB3.out⟩
/-! ### Kh -/
def sPlace : ByteArray := ⟨#[112, 108, 97, 99, 101]⟩
def sMotion : ByteArray := ⟨#[109, 111, 116, 105, 111, 110]⟩
def sShape : ByteArray := ⟨#[115, 104, 97, 112, 101]⟩
def nPlace : List ByteArray := [⟨#[120]⟩, ⟨#[121]⟩, ⟨#[97, 110, 103]⟩]
def nMotion : List ByteArray := [⟨#[118, 120]⟩, ⟨#[118, 121]⟩, ⟨#[115, 112, 105, 110]⟩, ⟨#[99, 97, 108, 109]⟩]
def nShape : List ByteArray := [⟨#[119]⟩, ⟨#[104]⟩, ⟨#[109, 97, 115, 115]⟩, ⟨#[98, 111, 117, 110, 99, 101]⟩, ⟨#[114, 117, 98]⟩]
def ofF (ks : List (ByteArray × List Fd)) : (Int × Int × Int) × Int :=
  if checkF ks ≠ 0 then ((0, 0, 0), checkF ks) else
  if (bfindF ks sPlace nPlace).2 ≠ 0 then ((0, 0, 0), (bfindF ks sPlace nPlace).2) else
  if (bfindF ks sMotion nMotion).2 ≠ 0 then ((0, 0, 0), (bfindF ks sMotion nMotion).2) else
  if (bfindF ks sShape nShape).2 ≠ 0 then ((0, 0, 0), (bfindF ks sShape nShape).2) else
  (((bfindF ks sPlace nPlace).1, (bfindF ks sMotion nMotion).1, (bfindF ks sShape nShape).1), 0)
/-- A block that has just been laid, read as a slice. -/
theorem Rd.lit (w : World) (xs : List Value) (t : TypeId) : Rd (w.alloc (.cells xs.toArray t)) (w.heap.size + 1) 1 (some ⟨w.heap.size, 0, none⟩) xs.length xs :=
  ⟨by simp, fun _ => ⟨_, _, rfl, by omega, fun j u hu => by
    rw [Nat.zero_add]
    exact ((Bk.new w t xs.toArray).cell j).trans (by simpa using hu)⟩⟩
/-- What is known of kinds that came in. -/
structure KsOk (w : World) (B : Nat) (A : Option Addr) (n c : Nat) (ks : List Kd) : Prop where
  rd : Rd w B 2 A n (kdCs ks)
  len : n = ks.length
  cap : n ≤ c
  cap2 : c ≤ 9223372036854775807
  ok : ∀ k ∈ ks, KdOk w B k
  lo : B ≤ w.heap.size
theorem KsOk.below {w w' : World} {B n c : Nat} {A : Option Addr} {ks : List Kd} (h : KsOk w B A n c ks) (hb : Below B w w') : KsOk w' B A n c ks :=
  ⟨h.rd.below hb, h.len, h.cap, h.cap2, fun k hk => (h.ok k hk).below hb, Nat.le_trans h.lo hb.size⟩
theorem KsOk.more {w : World} {B B' n c : Nat} {A : Option Addr} {ks : List Kd} (h : KsOk w B A n c ks) (hB : B ≤ B') (hB' : B' ≤ w.heap.size) : KsOk w B' A n c ks :=
  ⟨h.rd.more hB, h.len, h.cap, h.cap2, fun k hk => ⟨(h.ok k hk).rd.more hB, (h.ok k hk).len, (h.ok k hk).cap, (h.ok k hk).cap2⟩, hB'⟩
def FindP (w : World) (r : Int × Int) (e : Ending) (w' : World) : Prop := e = .returned (.tuple #[.int .i64 r.1, .int .i64 r.2]) ∧ Below w.heap.size w w'
theorem find_lit {w : World} {B n c : Nat} {A : Option Addr} {ks : List Kd} (h : KsOk w B A n c ks) (nm : ByteArray) (ns : List ByteArray) :
    Calls Try.prog 95 #[.slice A n c, .string nm, .slice (some ⟨w.heap.size, 0, none⟩) ns.length ns.length] (w.alloc (.cells (strV ns).toArray 9)) (FindP w (bfindF (ks.map Kd.p) nm ns)) := by
  have hb := (Below.refl w.heap.size w).alloc (Nat.le_refl _) (.cells (strV ns).toArray 9)
  have h2 := (h.below (hb.mono h.lo)).more (B' := w.heap.size + 1) (by have := h.lo; omega) (by simp)
  have hl := Rd.lit w (strV ns) 9
  rw [show (strV ns).length = ns.length by simp [strV]] at hl
  exact (bfind_any A (some ⟨w.heap.size, 0, none⟩) n c ns.length ns.length (w.heap.size + 1) ks nm ns _ h2.rd h2.len h2.cap h2.cap2 h2.ok hl rfl h2.lo).mono fun e w' hh => ⟨hh.1, hb.trans (hh.2.mono (by simp))⟩
def OfP (w : World) (r : (Int × Int × Int) × Int) (e : Ending) (w' : World) : Prop :=
  e = .returned (.tuple #[.agg #[.int .i64 r.1.1, .int .i64 r.1.2.1, .int .i64 r.1.2.2], .int .i64 r.2]) ∧ Below w.heap.size w w'
set_option maxHeartbeats 800000 in
theorem of_any {w : World} {B n c : Nat} {A : Option Addr} {ks : List Kd} (h : KsOk w B A n c ks) : Calls Try.prog 19 #[.slice A n c] w (OfP w (ofF (ks.map Kd.p))) := by
  obtain ⟨R, hR⟩ : ∃ R, R = ofF (ks.map Kd.p) := ⟨_, rfl⟩
  rw [← hR]
  have HR := Lib.hid hR
  obtain ⟨w1, hw1⟩ : ∃ w1, w1 = w.alloc (.cells #[.int .i64 0, .int .i64 0, .int .i64 0] 24) := ⟨_, rfl⟩
  have hb1 : Below w.heap.size w w1 := by rw [hw1]; exact (Below.refl _ w).alloc (Nat.le_refl _) _
  have hk1 : Bk w1 w.heap.size 24 #[.int .i64 0, .int .i64 0, .int .i64 0] := by rw [hw1]; exact Bk.new _ _ _
  have h1 := h.below (hb1.mono h.lo)
  have hck := check_any A n c B ks w1 h1.rd h1.len h1.cap h1.cap2 h1.ok h1.lo
  have HCK := Lib.hid hck
  have H1 := Lib.hid h1
  have HB1 := Lib.hid hb1
  have HK1 := Lib.hid hk1
  clear hR hb1 hk1 h1 hck
  go_enter Try.func19, Try.ntmps19
  go_wp2_with fail
  rw [← hw1]
  clear hw1
  refine HCK.out.mono ?_
  rintro e w2 ⟨rfl, hb2⟩
  have HB2 := Lib.hid (HB1.out.trans (hb2.mono HB1.out.size))
  have HK2 := Lib.hid (HK1.out.below hb2 HK1.out.lt)
  have HZ2 : Hid (w.heap.size < w2.heap.size) := Lib.hid (HK2.out.lt)
  have H2 := Lib.hid (H1.out.below (hb2.mono H1.out.lo))
  clear hb2
  generalize hcv : checkF (ks.map Kd.p) = cv at *
  by_cases hc0 : cv = 0
  · subst hc0
    have hR2 : R = if (bfindF (ks.map Kd.p) sPlace nPlace).2 ≠ 0 then ((0, 0, 0), (bfindF (ks.map Kd.p) sPlace nPlace).2) else
        if (bfindF (ks.map Kd.p) sMotion nMotion).2 ≠ 0 then ((0, 0, 0), (bfindF (ks.map Kd.p) sMotion nMotion).2) else
        if (bfindF (ks.map Kd.p) sShape nShape).2 ≠ 0 then ((0, 0, 0), (bfindF (ks.map Kd.p) sShape nShape).2) else
        (((bfindF (ks.map Kd.p) sPlace nPlace).1, (bfindF (ks.map Kd.p) sMotion nMotion).1, (bfindF (ks.map Kd.p) sShape nShape).1), 0) := by
      rw [HR.out, ofF, if_neg (by rw [hcv]; simp)]
    have HR2 := Lib.hid hR2
    clear hR2 HR
    obtain ⟨w3, hw3⟩ : ∃ w3, w3 = w2.alloc (.cells #[.int .i64 0, .int .i64 0, .int .i64 0] 24) := ⟨_, rfl⟩
    have hz3 : w3.heap.size = w2.heap.size + 1 := by rw [hw3]; simp
    have hb3 : Below w2.heap.size w2 w3 := by rw [hw3]; exact (Below.refl _ w2).alloc (Nat.le_refl _) _
    have HM3 : Hid (Bk w3 w2.heap.size 24 #[.int .i64 0, .int .i64 0, .int .i64 0]) := Lib.hid (by rw [hw3]; exact Bk.new _ _ _)
    have HB3 := Lib.hid (HB2.out.trans (hb3.mono HB2.out.size))
    have HK3 := Lib.hid (HK2.out.below hb3 HZ2.out)
    have H3 := Lib.hid (H2.out.below (hb3.mono H2.out.lo))
    clear hb3
    have HZ3 := Lib.hid hz3
    clear hz3
    have hf0 : Calls Try.prog 95 #[.slice A n c, .string ⟨#[112, 108, 97, 99, 101]⟩, .slice (some ⟨(w3).heap.size, 0, none⟩) 3 3] ((w3).alloc (.cells #[.string ⟨#[120]⟩, .string ⟨#[121]⟩, .string ⟨#[97, 110, 103]⟩] 9)) (FindP (w3) (bfindF (ks.map Kd.p) sPlace nPlace)) := find_lit H3.out sPlace nPlace
    rw [HZ3.out] at hf0
    generalize hg0 : bfindF (ks.map Kd.p) sPlace nPlace = r0 at *
    obtain ⟨a0, e0⟩ := r0
    have HF0 := Lib.hid hf0
    clear hf0
    go_wp2_with fail
    rw [← hw3]
    clear hw3
    refine HF0.out.mono ?_
    rintro e v0 ⟨rfl, hbv⟩
    replace hbv : Below w3.heap.size (w3) v0 := by
      have h9 := hbv
      exact h9
    have HVM : Hid (Bk v0 w2.heap.size 24 #[.int .i64 0, .int .i64 0, .int .i64 0]) := Lib.hid (HM3.out.below hbv (by have := HM3.out.lt; omega))
    have HVK : Hid (Bk v0 w.heap.size 24 #[.int .i64 0, .int .i64 0, .int .i64 0]) := Lib.hid (HK3.out.below hbv (by have := HK3.out.lt; omega))
    have HVB : Hid (Below w.heap.size w v0) := Lib.hid (HB3.out.trans (hbv.mono (by have := HZ2.out; have := HM3.out.lt; omega)))
    have HVH : Hid (KsOk v0 B A n c ks) := Lib.hid (H3.out.below (hbv.mono (by have := H3.out.lo; omega)))
    clear hbv
    have HM0_ : Hid (Bk (v0.setCell ⟨w2.heap.size, 0, none⟩ (.int .i64 a0)) w2.heap.size 24 #[.int .i64 a0, .int .i64 0, .int .i64 0]) := Lib.hid (HVM.out.set_ 0 (.int .i64 a0))
    have HK0_ : Hid (Bk (v0.setCell ⟨w2.heap.size, 0, none⟩ (.int .i64 a0)) w.heap.size 24 #[.int .i64 0, .int .i64 0, .int .i64 0]) := Lib.hid (HVK.out.far (by show w.heap.size ≠ w2.heap.size; have := HZ2.out; omega) _)
    have HB0_ : Hid (Below w.heap.size w (v0.setCell ⟨w2.heap.size, 0, none⟩ (.int .i64 a0))) := Lib.hid (HVB.out.setCell (p := ⟨w2.heap.size, 0, none⟩) (by show w.heap.size ≤ w2.heap.size; have := HZ2.out; omega) _)
    have HH0_ : Hid (KsOk (v0.setCell ⟨w2.heap.size, 0, none⟩ (.int .i64 a0)) B A n c ks) := Lib.hid (HVH.out.below ((Below.refl w.heap.size v0).setCell (p := ⟨w2.heap.size, 0, none⟩) (by show w.heap.size ≤ w2.heap.size; have := HZ2.out; omega) _ |>.mono h.lo))
    have m0 : v0.cell? ⟨w2.heap.size, 0, none⟩ = some (.int .i64 0) := HVM.out.cell 0
    have mf0 := HVM.out.frozen 0
    clear HVM HVK HVB HVH
    by_cases he0 : e0 = 0
    · subst he0
      have HR2' := HR2.out
      rw [if_neg (by simp)] at HR2'
      clear HR2
      have HR2 := Lib.hid HR2'
      clear HR2'
      have hf1 : Calls Try.prog 95 #[.slice A n c, .string ⟨#[109, 111, 116, 105, 111, 110]⟩, .slice (some ⟨(v0.setCell ⟨w2.heap.size, 0, none⟩ (.int .i64 a0)).heap.size, 0, none⟩) 4 4] ((v0.setCell ⟨w2.heap.size, 0, none⟩ (.int .i64 a0)).alloc (.cells #[.string ⟨#[118, 120]⟩, .string ⟨#[118, 121]⟩, .string ⟨#[115, 112, 105, 110]⟩, .string ⟨#[99, 97, 108, 109]⟩] 9)) (FindP (v0.setCell ⟨w2.heap.size, 0, none⟩ (.int .i64 a0)) (bfindF (ks.map Kd.p) sMotion nMotion)) := find_lit HH0_.out sMotion nMotion
      rw [show (v0.setCell ⟨w2.heap.size, 0, none⟩ (.int .i64 a0)).heap.size = v0.heap.size from by simp [World.setCell]] at hf1
      generalize hg1 : bfindF (ks.map Kd.p) sMotion nMotion = r1 at *
      obtain ⟨a1, e1⟩ := r1
      have HF1 := Lib.hid hf1
      clear hf1
      go_wp2_with fail
      refine HF1.out.mono ?_
      rintro e v1 ⟨rfl, hbv⟩
      replace hbv : Below v0.heap.size (v0.setCell ⟨w2.heap.size, 0, none⟩ (.int .i64 a0)) v1 := by
        have h9 := hbv
        rw [show (v0.setCell ⟨w2.heap.size, 0, none⟩ (.int .i64 a0)).heap.size = v0.heap.size from by simp [World.setCell]] at h9
        exact h9
      have HVM : Hid (Bk v1 w2.heap.size 24 #[.int .i64 a0, .int .i64 0, .int .i64 0]) := Lib.hid (HM0_.out.below hbv (by have := HM0_.out.lt; rw [show (v0.setCell ⟨w2.heap.size, 0, none⟩ (.int .i64 a0)).heap.size = v0.heap.size from by simp [World.setCell]] at this; omega))
      have HVK : Hid (Bk v1 w.heap.size 24 #[.int .i64 0, .int .i64 0, .int .i64 0]) := Lib.hid (HK0_.out.below hbv (by have := HK0_.out.lt; rw [show (v0.setCell ⟨w2.heap.size, 0, none⟩ (.int .i64 a0)).heap.size = v0.heap.size from by simp [World.setCell]] at this; omega))
      have HVB : Hid (Below w.heap.size w v1) := Lib.hid (HB0_.out.trans (hbv.mono (by have := HZ2.out; have := HM0_.out.lt; rw [show (v0.setCell ⟨w2.heap.size, 0, none⟩ (.int .i64 a0)).heap.size = v0.heap.size from by simp [World.setCell]] at this; omega)))
      have HVH : Hid (KsOk v1 B A n c ks) := Lib.hid (HH0_.out.below (hbv.mono (by have := HH0_.out.lo; rw [show (v0.setCell ⟨w2.heap.size, 0, none⟩ (.int .i64 a0)).heap.size = v0.heap.size from by simp [World.setCell]] at this; omega)))
      clear hbv
      have HM1_ : Hid (Bk (v1.setCell ⟨w2.heap.size, 1, none⟩ (.int .i64 a1)) w2.heap.size 24 #[.int .i64 a0, .int .i64 a1, .int .i64 0]) := Lib.hid (HVM.out.set_ 1 (.int .i64 a1))
      have HK1_ : Hid (Bk (v1.setCell ⟨w2.heap.size, 1, none⟩ (.int .i64 a1)) w.heap.size 24 #[.int .i64 0, .int .i64 0, .int .i64 0]) := Lib.hid (HVK.out.far (by show w.heap.size ≠ w2.heap.size; have := HZ2.out; omega) _)
      have HB1_ : Hid (Below w.heap.size w (v1.setCell ⟨w2.heap.size, 1, none⟩ (.int .i64 a1))) := Lib.hid (HVB.out.setCell (p := ⟨w2.heap.size, 1, none⟩) (by show w.heap.size ≤ w2.heap.size; have := HZ2.out; omega) _)
      have HH1_ : Hid (KsOk (v1.setCell ⟨w2.heap.size, 1, none⟩ (.int .i64 a1)) B A n c ks) := Lib.hid (HVH.out.below ((Below.refl w.heap.size v1).setCell (p := ⟨w2.heap.size, 1, none⟩) (by show w.heap.size ≤ w2.heap.size; have := HZ2.out; omega) _ |>.mono h.lo))
      have m1 : v1.cell? ⟨w2.heap.size, 1, none⟩ = some (.int .i64 0) := HVM.out.cell 1
      have mf1 := HVM.out.frozen 1
      clear HVM HVK HVB HVH
      by_cases he1 : e1 = 0
      · subst he1
        have HR2' := HR2.out
        rw [if_neg (by simp)] at HR2'
        clear HR2
        have HR2 := Lib.hid HR2'
        clear HR2'
        have hf2 : Calls Try.prog 95 #[.slice A n c, .string ⟨#[115, 104, 97, 112, 101]⟩, .slice (some ⟨(v1.setCell ⟨w2.heap.size, 1, none⟩ (.int .i64 a1)).heap.size, 0, none⟩) 5 5] ((v1.setCell ⟨w2.heap.size, 1, none⟩ (.int .i64 a1)).alloc (.cells #[.string ⟨#[119]⟩, .string ⟨#[104]⟩, .string ⟨#[109, 97, 115, 115]⟩, .string ⟨#[98, 111, 117, 110, 99, 101]⟩, .string ⟨#[114, 117, 98]⟩] 9)) (FindP (v1.setCell ⟨w2.heap.size, 1, none⟩ (.int .i64 a1)) (bfindF (ks.map Kd.p) sShape nShape)) := find_lit HH1_.out sShape nShape
        rw [show (v1.setCell ⟨w2.heap.size, 1, none⟩ (.int .i64 a1)).heap.size = v1.heap.size from by simp [World.setCell]] at hf2
        generalize hg2 : bfindF (ks.map Kd.p) sShape nShape = r2 at *
        obtain ⟨a2, e2⟩ := r2
        have HF2 := Lib.hid hf2
        clear hf2
        go_wp2_with fail
        refine HF2.out.mono ?_
        rintro e v2 ⟨rfl, hbv⟩
        replace hbv : Below v1.heap.size (v1.setCell ⟨w2.heap.size, 1, none⟩ (.int .i64 a1)) v2 := by
          have h9 := hbv
          rw [show (v1.setCell ⟨w2.heap.size, 1, none⟩ (.int .i64 a1)).heap.size = v1.heap.size from by simp [World.setCell]] at h9
          exact h9
        have HVM : Hid (Bk v2 w2.heap.size 24 #[.int .i64 a0, .int .i64 a1, .int .i64 0]) := Lib.hid (HM1_.out.below hbv (by have := HM1_.out.lt; rw [show (v1.setCell ⟨w2.heap.size, 1, none⟩ (.int .i64 a1)).heap.size = v1.heap.size from by simp [World.setCell]] at this; omega))
        have HVK : Hid (Bk v2 w.heap.size 24 #[.int .i64 0, .int .i64 0, .int .i64 0]) := Lib.hid (HK1_.out.below hbv (by have := HK1_.out.lt; rw [show (v1.setCell ⟨w2.heap.size, 1, none⟩ (.int .i64 a1)).heap.size = v1.heap.size from by simp [World.setCell]] at this; omega))
        have HVB : Hid (Below w.heap.size w v2) := Lib.hid (HB1_.out.trans (hbv.mono (by have := HZ2.out; have := HM1_.out.lt; rw [show (v1.setCell ⟨w2.heap.size, 1, none⟩ (.int .i64 a1)).heap.size = v1.heap.size from by simp [World.setCell]] at this; omega)))
        have HVH : Hid (KsOk v2 B A n c ks) := Lib.hid (HH1_.out.below (hbv.mono (by have := HH1_.out.lo; rw [show (v1.setCell ⟨w2.heap.size, 1, none⟩ (.int .i64 a1)).heap.size = v1.heap.size from by simp [World.setCell]] at this; omega)))
        clear hbv
        have HM2_ : Hid (Bk (v2.setCell ⟨w2.heap.size, 2, none⟩ (.int .i64 a2)) w2.heap.size 24 #[.int .i64 a0, .int .i64 a1, .int .i64 a2]) := Lib.hid (HVM.out.set_ 2 (.int .i64 a2))
        have HK2_ : Hid (Bk (v2.setCell ⟨w2.heap.size, 2, none⟩ (.int .i64 a2)) w.heap.size 24 #[.int .i64 0, .int .i64 0, .int .i64 0]) := Lib.hid (HVK.out.far (by show w.heap.size ≠ w2.heap.size; have := HZ2.out; omega) _)
        have HB2_ : Hid (Below w.heap.size w (v2.setCell ⟨w2.heap.size, 2, none⟩ (.int .i64 a2))) := Lib.hid (HVB.out.setCell (p := ⟨w2.heap.size, 2, none⟩) (by show w.heap.size ≤ w2.heap.size; have := HZ2.out; omega) _)
        have HH2_ : Hid (KsOk (v2.setCell ⟨w2.heap.size, 2, none⟩ (.int .i64 a2)) B A n c ks) := Lib.hid (HVH.out.below ((Below.refl w.heap.size v2).setCell (p := ⟨w2.heap.size, 2, none⟩) (by show w.heap.size ≤ w2.heap.size; have := HZ2.out; omega) _ |>.mono h.lo))
        have m2 : v2.cell? ⟨w2.heap.size, 2, none⟩ = some (.int .i64 0) := HVM.out.cell 2
        have mf2 := HVM.out.frozen 2
        clear HVM HVK HVB HVH
        by_cases he2 : e2 = 0
        · subst he2
          have HR2' := HR2.out
          rw [if_neg (by simp)] at HR2'
          clear HR2
          have HR2 := Lib.hid HR2'
          clear HR2'
          have q0 : (v2.setCell ⟨w2.heap.size, 2, none⟩ (.int .i64 a2)).cell? ⟨w.heap.size, 0, none⟩ = some (.int .i64 0) := HK2_.out.cell 0
          have q1 : (v2.setCell ⟨w2.heap.size, 2, none⟩ (.int .i64 a2)).cell? ⟨w.heap.size, 1, none⟩ = some (.int .i64 0) := HK2_.out.cell 1
          have q2 : (v2.setCell ⟨w2.heap.size, 2, none⟩ (.int .i64 a2)).cell? ⟨w.heap.size, 2, none⟩ = some (.int .i64 0) := HK2_.out.cell 2
          have g0 := HK2_.out.frozen 0
          have g1 := HK2_.out.frozen 1
          have g2 := HK2_.out.frozen 2
          have n0 : (v2.setCell ⟨w2.heap.size, 2, none⟩ (.int .i64 a2)).cell? ⟨w2.heap.size, 0, none⟩ = some (.int .i64 a0) := HM2_.out.cell 0
          have n1 : (v2.setCell ⟨w2.heap.size, 2, none⟩ (.int .i64 a2)).cell? ⟨w2.heap.size, 1, none⟩ = some (.int .i64 a1) := HM2_.out.cell 1
          have n2 : (v2.setCell ⟨w2.heap.size, 2, none⟩ (.int .i64 a2)).cell? ⟨w2.heap.size, 2, none⟩ = some (.int .i64 a2) := HM2_.out.cell 2
          go_wp2_with fail
          (try simp only [Exit.inBlock, Exit.then])
          refine bodyPost_ret (v := .tuple #[.agg #[.int .i64 a0, .int .i64 a1, .int .i64 a2], .int .i64 0]) ?_ rfl ⟨by rw [HR2.out], ?_⟩
          · rw [results_cell_tmp rfl]
            go_simp
          · exact ((HB2_.out.setCell (p := ⟨w.heap.size, 0, none⟩) (Nat.le_refl _) _).setCell (p := ⟨w.heap.size, 1, none⟩) (Nat.le_refl _) _).setCell (p := ⟨w.heap.size, 2, none⟩) (Nat.le_refl _) _
        · have heb : (e2 != 0) = true := by simp [he2]
          have hR9 := HR2.out
          rw [if_pos (by exact he2)] at hR9
          have q0 : (v2.setCell ⟨w2.heap.size, 2, none⟩ (.int .i64 a2)).cell? ⟨w.heap.size, 0, none⟩ = some (.int .i64 0) := HK2_.out.cell 0
          have q1 : (v2.setCell ⟨w2.heap.size, 2, none⟩ (.int .i64 a2)).cell? ⟨w.heap.size, 1, none⟩ = some (.int .i64 0) := HK2_.out.cell 1
          have q2 : (v2.setCell ⟨w2.heap.size, 2, none⟩ (.int .i64 a2)).cell? ⟨w.heap.size, 2, none⟩ = some (.int .i64 0) := HK2_.out.cell 2
          have g0 := HK2_.out.frozen 0
          have g1 := HK2_.out.frozen 1
          have g2 := HK2_.out.frozen 2
          go_wp2_with fail
          (try simp only [Exit.inBlock, Exit.then])
          refine bodyPost_ret (v := .tuple #[.agg #[.int .i64 0, .int .i64 0, .int .i64 0], .int .i64 e2]) ?_ rfl ⟨by rw [hR9], ?_⟩
          · rw [results_cell_tmp rfl]
            go_simp
          · exact ((HB2_.out.setCell (p := ⟨w.heap.size, 0, none⟩) (Nat.le_refl _) _).setCell (p := ⟨w.heap.size, 1, none⟩) (Nat.le_refl _) _).setCell (p := ⟨w.heap.size, 2, none⟩) (Nat.le_refl _) _
      · have heb : (e1 != 0) = true := by simp [he1]
        have hR9 := HR2.out
        rw [if_pos (by exact he1)] at hR9
        have q0 : (v1.setCell ⟨w2.heap.size, 1, none⟩ (.int .i64 a1)).cell? ⟨w.heap.size, 0, none⟩ = some (.int .i64 0) := HK1_.out.cell 0
        have q1 : (v1.setCell ⟨w2.heap.size, 1, none⟩ (.int .i64 a1)).cell? ⟨w.heap.size, 1, none⟩ = some (.int .i64 0) := HK1_.out.cell 1
        have q2 : (v1.setCell ⟨w2.heap.size, 1, none⟩ (.int .i64 a1)).cell? ⟨w.heap.size, 2, none⟩ = some (.int .i64 0) := HK1_.out.cell 2
        have g0 := HK1_.out.frozen 0
        have g1 := HK1_.out.frozen 1
        have g2 := HK1_.out.frozen 2
        go_wp2_with fail
        (try simp only [Exit.inBlock, Exit.then])
        refine bodyPost_ret (v := .tuple #[.agg #[.int .i64 0, .int .i64 0, .int .i64 0], .int .i64 e1]) ?_ rfl ⟨by rw [hR9], ?_⟩
        · rw [results_cell_tmp rfl]
          go_simp
        · exact ((HB1_.out.setCell (p := ⟨w.heap.size, 0, none⟩) (Nat.le_refl _) _).setCell (p := ⟨w.heap.size, 1, none⟩) (Nat.le_refl _) _).setCell (p := ⟨w.heap.size, 2, none⟩) (Nat.le_refl _) _
    · have heb : (e0 != 0) = true := by simp [he0]
      have hR9 := HR2.out
      rw [if_pos (by exact he0)] at hR9
      have q0 : (v0.setCell ⟨w2.heap.size, 0, none⟩ (.int .i64 a0)).cell? ⟨w.heap.size, 0, none⟩ = some (.int .i64 0) := HK0_.out.cell 0
      have q1 : (v0.setCell ⟨w2.heap.size, 0, none⟩ (.int .i64 a0)).cell? ⟨w.heap.size, 1, none⟩ = some (.int .i64 0) := HK0_.out.cell 1
      have q2 : (v0.setCell ⟨w2.heap.size, 0, none⟩ (.int .i64 a0)).cell? ⟨w.heap.size, 2, none⟩ = some (.int .i64 0) := HK0_.out.cell 2
      have g0 := HK0_.out.frozen 0
      have g1 := HK0_.out.frozen 1
      have g2 := HK0_.out.frozen 2
      go_wp2_with fail
      (try simp only [Exit.inBlock, Exit.then])
      refine bodyPost_ret (v := .tuple #[.agg #[.int .i64 0, .int .i64 0, .int .i64 0], .int .i64 e0]) ?_ rfl ⟨by rw [hR9], ?_⟩
      · rw [results_cell_tmp rfl]
        go_simp
      · exact ((HB0_.out.setCell (p := ⟨w.heap.size, 0, none⟩) (Nat.le_refl _) _).setCell (p := ⟨w.heap.size, 1, none⟩) (Nat.le_refl _) _).setCell (p := ⟨w.heap.size, 2, none⟩) (Nat.le_refl _) _
  · have hcb : (cv != 0) = true := by simp [hc0]
    have hR2 := HR.out
    rw [ofF, if_pos (by rw [hcv]; exact hc0), hcv] at hR2
    have q0 := HK2.out.cell 0
    have q1 := HK2.out.cell 1
    have q2 := HK2.out.cell 2
    have g0 := HK2.out.frozen 0
    have g1 := HK2.out.frozen 1
    have g2 := HK2.out.frozen 2
    replace q0 : w2.cell? ⟨w.heap.size, 0, none⟩ = some (.int .i64 0) := q0
    replace q1 : w2.cell? ⟨w.heap.size, 1, none⟩ = some (.int .i64 0) := q1
    replace q2 : w2.cell? ⟨w.heap.size, 2, none⟩ = some (.int .i64 0) := q2
    go_wp2_with fail
    (try simp only [Exit.inBlock, Exit.then])
    refine bodyPost_ret (v := .tuple #[.agg #[.int .i64 0, .int .i64 0, .int .i64 0], .int .i64 cv]) ?_ rfl ⟨by rw [hR2], ?_⟩
    · rw [results_cell_tmp rfl]
      go_simp
    · exact ((HB2.out.setCell (p := ⟨w.heap.size, 0, none⟩) (Nat.le_refl _) _).setCell (p := ⟨w.heap.size, 1, none⟩) (Nat.le_refl _) _).setCell (p := ⟨w.heap.size, 2, none⟩) (Nat.le_refl _) _
/-! ### Ki -/
theorem take_eq_succT {α : Type} {l l' : List α} {k : Nat} {x y : α} (hx : l[k]? = some x) (hy : l'[k]? = some y) (h : l.take k = l'.take k) (e : x = y) : l.take (k + 1) = l'.take (k + 1) := by
  rw [List.take_add_one, List.take_add_one, hx, hy, h, e]
theorem ne_of_atT {α : Type} {l l' : List α} {k : Nat} {x y : α} (hx : l[k]? = some x) (hy : l'[k]? = some y) (h : x ≠ y) : l ≠ l' := by
  rintro rfl
  rw [hx] at hy
  exact h (Option.some.inj hy)
theorem ret_bT {a b : Bool} (h : a = b) : Ending.returned (.bool a) = Ending.returned (.bool b) := by rw [h]
set_option maxHeartbeats 800000 in
theorem equalSS_any (A A' : Option Addr) (n c n' c' B : Nat) (l l' : List ByteArray) (w : World) (hn : n = l.length) (hn' : n' = l'.length) (hm : n ≤ 9223372036854775807) (hr : Rd w B 1 A n (strV l)) (hr' : Rd w B 1 A' n' (strV l')) :
    Calls Try.prog 93 #[.slice A n c, .slice A' n' c'] w fun e w' => e = .returned (.bool (decide (l = l'))) ∧ ∃ m, w.drewN m = w' := by
  by_cases h0 : n = n'
  · subst h0
    have t0 : ((n : Int) != n) = false := by simp
    have HN := Lib.hid hn
    have HN' := Lib.hid hn'
    have HR := Lib.hid hr
    have HR' := Lib.hid hr'
    clear hn hn' hr hr'
    go_enter Try.func93, Try.ntmps93
    go_wp2_with fail
    go_loopw [13] (fun i wr => ∃ k : Nat, k ≤ n ∧ i = .int .i64 k ∧ l.take k = l'.take k ∧ ∃ m, w.drewN m = wr) (fun i _ => n - (intOf i).toNat)
    case atStart => exact ⟨0, Nat.zero_le _, rfl, rfl, 0, rfl⟩
    case round =>
      obtain ⟨k, hk, rfl, hT, m, rfl⟩ := hrel
      have HT := Lib.hid hT
      clear hT
      by_cases hlt : k < n
      · have e1 := HN.out
        have e2 := HN'.out
        obtain ⟨x, hx'⟩ : ∃ x, l[k]? = some x := ⟨_, List.getElem?_eq_getElem (by omega)⟩
        obtain ⟨y, hy'⟩ : ∃ y, l'[k]? = some y := ⟨_, List.getElem?_eq_getElem (by omega)⟩
        have hx := strV_get hx'
        have hy := strV_get hy'
        obtain ⟨b, o, rfl, _, c0⟩ := HR.out.at1 hlt hx
        obtain ⟨b', o', rfl, _, c1⟩ := HR'.out.at1 hlt hy
        have HX := Lib.hid hx'
        have HY := Lib.hid hy'
        have hk0 : (0 : Int) ≤ k := by omega
        have hkn : (k : Int) < n := by omega
        clear e1 e2 hx hy hx' hy'
        go_wp2_with fail
        go_quiet (fail)
        by_cases hxy : x = y
        · have HXY := Lib.hid hxy
          subst hxy
          go_wp2_with fail
          · rename_i hh
            exact absurd hh (by simp)
          go_roundw
          case measure => simp [intOf]; omega
          case rel => exact ⟨k + 1, by omega, by go_num, take_eq_succT HX.out HY.out HT.out HXY.out, _, rfl⟩
        · have t1 : (x == y) = false := ba_beq_ne hxy
          have t2 : (x.toList == y.toList) = false := ba_tl_ne hxy
          have t3 : (!(x.toList == y.toList)) = true := by simp [t2]
          have t4 : (x != y) = true := by simp [bne, t1]
          have HXY := Lib.hid hxy
          clear hxy
          go_wp2_with fail
          rotate_left
          · rename_i hh
            exact absurd hh (by simp [t2])
          go_ret
          exact ⟨ret_bT (by simp [ne_of_atT HX.out HY.out HXY.out]), _, (World.drewN_drewN _ _ _).symm⟩
      · go_wp2
        go_ret
        obtain rfl : k = n := by omega
        have h1 := HT.out
        rw [List.take_of_length_le (by rw [← HN.out]; omega), List.take_of_length_le (by rw [← HN'.out]; omega)] at h1
        exact ⟨ret_bT (by simp [h1]), _, rfl⟩
  · have t0 : ((n : Int) != n') = true := by simp; omega
    have HE : Hid (l ≠ l') := Lib.hid (by rintro rfl; omega)
    clear hn hn' hr hr' h0
    go_enter Try.func93, Try.ntmps93
    go_wp2_with fail
    go_ret
    exact ⟨ret_bT (by simp [HE.out]), 0, rfl⟩
/-! ### Sq -/
theorem T.info3 : (Try.prog.info? 3).map (fun i => (i.zero, i.size, i.bytes)) = some (some (.int .i64 0), 1, 8) := by kernel_rfl
/-! ### What a call may have touched: the blocks of F, and what is new -/
structure Fq (F : List Nat) (w w' : World) : Prop where
  os : w'.os = w.os
  tape : w'.tape = w.tape
  output : w'.output = w.output
  size : w.heap.size ≤ w'.heap.size
  low : ∀ k, k < w.heap.size → k ∉ F → w'.heap[k]? = w.heap[k]?
/-- F' is F, but for what is new. -/
def SubF (F F' : List Nat) (s : Nat) : Prop := ∀ k ∈ F', k ∈ F ∨ s ≤ k
section
variable {F F' G : List Nat} {a b c w w' : World} {B : Nat}
theorem Fq.refl : Fq F w w := ⟨rfl, rfl, rfl, Nat.le_refl _, fun _ _ _ => rfl⟩
theorem Fq.trans (h : Fq F a b) (k : Fq G b c) (hs : SubF F G a.heap.size) : Fq F a c :=
  ⟨k.os.trans h.os, k.tape.trans h.tape, k.output.trans h.output, Nat.le_trans h.size k.size,
   fun i h1 h2 => (k.low i (Nat.lt_of_lt_of_le h1 h.size) (fun hi => by rcases hs i hi with hj | hj; exact h2 hj; omega)).trans (h.low i h1 h2)⟩
theorem Fq.of_below (h : Below w.heap.size w w') : Fq F w w' := ⟨h.os, h.tape, h.output, h.size, fun k hk _ => h.block k hk⟩
theorem Fq.below (h : Fq F w w') (hF : ∀ k ∈ F, B ≤ k) (hB : B ≤ w.heap.size) : Below B w w' :=
  ⟨h.os, h.tape, h.output, h.size, fun k hk => h.low k (by omega) (fun hi => by have := hF k hi; omega)⟩
theorem Fq.drew (h : Fq F a w) : Fq F a w.drew := ⟨h.os, h.tape, h.output, h.size, h.low⟩
theorem Fq.drewN (h : Fq F a w) (n : Nat) : Fq F a (w.drewN n) := ⟨h.os, h.tape, h.output, h.size, h.low⟩
theorem Fq.set (h : Fq F a w) {g : Nat} (hg : g ∈ F ∨ a.heap.size ≤ g) (i : Nat) (u : Value) : Fq F a (w.setCell ⟨g, i, none⟩ u) :=
  ⟨h.os, h.tape, h.output, by simp [World.setCell]; exact h.size, fun k h1 h2 => (Below.heap_setCell _ _ _ _ (by show k ≠ g; rintro rfl; rcases hg with hg | hg; exact h2 hg; omega)).trans (h.low k h1 h2)⟩
theorem Fq.alloc (h : Fq F a w) (o : Obj) : Fq F a (w.alloc o) :=
  ⟨h.os, h.tape, h.output, by simp; exact Nat.le_succ_of_le h.size, fun k h1 h2 => (Below.heap_alloc _ _ _ (Nat.lt_of_lt_of_le h1 h.size)).trans (h.low k h1 h2)⟩
theorem Fq.grown (h : Fq F a w) {row : Option Nat} (hg : w.grownBy w' row) (hr : ∀ g, row = some g → g ∈ F ∨ a.heap.size ≤ g) : Fq F a w' :=
  ⟨hg.os.trans h.os, hg.tape.trans h.tape, hg.output.trans h.output, Nat.le_trans h.size hg.size, fun k h1 h2 => (hg.block k (Nat.lt_of_lt_of_le h1 h.size) (fun e => by rcases hr k e.symm with h3 | h3; exact h2 h3; omega)).trans (h.low k h1 h2)⟩
theorem SubF.refl (F : List Nat) (s : Nat) : SubF F F s := fun _ h => .inl h
theorem SubF.trans {s t : Nat} (h : SubF F F' s) (k : SubF F' G t) (hst : s ≤ t) : SubF F G s := fun i hi => by
  rcases k i hi with hj | hj
  · exact h i hj
  · exact .inr (by omega)
end
theorem own_keepB {w w' : World} {base size n : Nat} {e : TypeId} {v : Value} {xs : List Value} (h : w.ownsRow base e size v n xs) (hk : ∀ g, v.ownBlock = some g → w'.heap[g]? = w.heap[g]?) : w'.ownsRow base e size v n xs := by
  refine ⟨h.1, ?_⟩
  rcases h.2 with h2 | ⟨g, cap, cur, rfl, h3, h4, h5⟩
  · exact .inl h2
  · exact .inr ⟨g, cap, cur, rfl, h3, (hk g rfl).trans h4, h5⟩
theorem tmod_emod (x n : Int) (hn : 0 < n) : (x.tmod n < 0 → x.tmod n + n = x % n) ∧ (0 ≤ x.tmod n → x.tmod n = x % n) ∧ -n < x.tmod n ∧ x.tmod n < n := by
  have h1 := @Int.tmod_eq_emod x n
  have hd : ∀ (p : Prop) [Decidable p] (a b : Nat), ((if p then a else b : Nat) : Int) = if p then (a : Int) else b := fun p _ a b => by split <;> rfl
  rw [hd] at h1
  have h2 : n.natAbs = n := by omega
  have h3 := Int.emod_nonneg x (show n ≠ 0 by omega)
  have h4 := Int.emod_lt_of_pos x hn
  split at h1
  · refine ⟨fun h => ?_, fun h => ?_, ?_, ?_⟩ <;> omega
  · refine ⟨fun h => ?_, fun h => ?_, ?_, ?_⟩ <;> omega
set_option maxHeartbeats 800000 in
theorem below_any (x n : Int) (w : World) (h1 : 1 ≤ n) (h2 : n ≤ 9223372036854775807) :
    Calls Try.prog 24 #[.int .i64 x, .int .i64 n] w fun e w' => e = .returned (.int .i64 (x % n)) ∧ w = w' := by
  obtain ⟨m1, m2, m3, m4⟩ := tmod_emod x n (by omega)
  have M1 := Lib.hid m1
  have M2 := Lib.hid m2
  generalize hT : x.tmod n = T at *
  have HE : Hid (x % n = x % n) := Lib.hid rfl
  generalize x % n = E at *
  clear m1 m2 HE
  have hnz : (n == 0) = false := by simp; omega
  by_cases hT0 : T < 0
  · go_enter Try.func24, Try.ntmps24
    go_wp2_with fail
    go_ret
    exact ⟨ret_i (M1.out hT0), rfl⟩
  · go_enter Try.func24, Try.ntmps24
    go_wp2_with fail
    go_ret
    exact ⟨ret_i (M2.out (by omega)), rfl⟩
end Go.Proofs.Ytnidcmhfbkdioaa
