/-
  A slice of the call's own that has been cut in front ('Sh'); append of one element onto it. No condition: plain lemmas.
-/
import Derived.Test.YtnidcmhfbkdioaaKit
import Derived.Laws.CopyOwn
import Derived.ArgAppend
namespace Go.Proofs.Ytnidcmhfbkdioaa
open Go.RowKit
set_option maxRecDepth 100000

def Sh (w : World) (base : Nat) (e : TypeId) (size : Nat) (A : Option Addr) (n c : Nat) (xs : List Value) : Prop :=
  xs.length = n * size ∧ n ≤ c ∧ c ≤ maxLen ∧ (A = none ∧ c = 0 ∨ ∃ g pre post, A = some ⟨g, pre.length, none⟩ ∧ base ≤ g ∧ Bk w g e (pre ++ (xs ++ post)).toArray ∧ (c - n) * size ≤ post.length)

section
variable {w w' : World} {base n c size : Nat} {e : TypeId} {A : Option Addr} {xs : List Value}
theorem Sh.nil_ (w : World) (base : Nat) (e : TypeId) (size : Nat) : Sh w base e size none 0 0 [] := ⟨by simp, Nat.le_refl _, Nat.zero_le _, .inl ⟨rfl, rfl⟩⟩
theorem Sh.keep (h : Sh w base e size A n c xs) (hk : ∀ g cs, A.map (·.block) = some g → Bk w g e cs → Bk w' g e cs) : Sh w' base e size A n c xs := by
  obtain ⟨h1, h2, h3, h4⟩ := h
  refine ⟨h1, h2, h3, ?_⟩
  rcases h4 with h4 | ⟨g, pre, post, rfl, hb, hbk, hp⟩
  · exact .inl h4
  · exact .inr ⟨g, pre, post, rfl, hb, hk g _ rfl hbk, hp⟩
/-- The cells, all of one block. -/
theorem Sh.open_ (h : Sh w base e size A n c xs) (hn : 0 < n) : ∃ g o cs, A = some ⟨g, o, none⟩ ∧ base ≤ g ∧ Bk w g e cs ∧ ∀ j u, xs[j]? = some u → w.cell? ⟨g, o + j, none⟩ = some u := by
  obtain ⟨h1, h2, h3, h4⟩ := h
  rcases h4 with ⟨_, rfl⟩ | ⟨g, pre, post, rfl, hb, hbk, hp⟩
  · omega
  · refine ⟨g, _, _, rfl, hb, hbk, fun j u hu => (hbk.cell _).trans ?_⟩
    have hj : j < xs.length := (List.getElem?_eq_some_iff.1 hu).1
    rw [List.getElem?_toArray, List.getElem?_append_right (by omega), Nat.add_sub_cancel_left, List.getElem?_append_left hj]
    exact hu
end

/-! ### append of one element onto such a slice -/
section
variable {P : Program} (w : World)
theorem run_append_sh (base : Nat) (t ty e : TypeId) (i : TypeInfo) (z : Value) (size bytes : Nat) (ht : P.underlying t = some (.slice e)) (hi : P.info? e = some i) (hz : i.zero = some z)
    (hsize : i.size = size) (hby : i.bytes = bytes) (hzs : z.cells.size = size) (hsz : 0 < size)
    (A : Option Addr) (n c : Nat) (xs : List Value) (hs : Sh w base e size A n c xs)
    (b c1 : Nat) (t' : TypeId) (cs : Array Value) (hr : Bk w b t' cs) (hcs : cs.size = size) (h1 : ∀ u ∈ cs.toList, u.oneCell' = true)
    (n' : Nat) (hn' : n' = n + 1) (h63 : n' ≤ maxLen) (hbytes : n' * bytes ≤ 140737488355328) (hbase : base ≤ w.heap.size) :
    ∃ g pre post c' w', (Builtin.append_ #[t, t] ty #[.slice A n c, .slice (some ⟨b, 0, none⟩) 1 c1]).run P w = .ok (.slice (some ⟨g, pre.length, none⟩) n' c') w' ∧
      base ≤ g ∧ Bk w' g e (pre ++ ((xs ++ cs.toList) ++ post)).toArray ∧ n' ≤ c' ∧ c' ≤ maxLen ∧ (c' - n') * size ≤ post.length ∧ w.grownBy w' (A.map (·.block)) ∧ (A.map (·.block) = some g ∨ g = w.heap.size) := by
  subst hn' hsize hby
  obtain ⟨hl, hnc, hcm, hA⟩ := hs
  have hnews : ∀ j u, cs.toList[j]? = some u → w.cell? ((⟨b, 0, none⟩ : Addr).add j) = some u := by
    intro j u hu
    rw [Addr.add_lit, Nat.zero_add]
    exact (hr.cell j).trans (by simpa using hu)
  have hcl : cs.toList.length = 1 * i.size := by simp [hcs]
  have hsmall : n + 1 ≤ 9223372036854775807 := by simp only [maxLen] at h63; omega
  have hlen : (xs ++ cs.toList).length = (n + 1) * i.size := by rw [List.length_append, hl, hcl, Nat.add_mul]
  by_cases hroom : n + 1 ≤ c
  · rcases hA with ⟨_, rfl⟩ | ⟨g, pre, post, rfl, hbg, hbk, hp⟩
    · omega
    · have hfit : (pre.length + n * i.size) + 0 + cs.toList.length ≤ (pre ++ (xs ++ post)).toArray.size := by
        have : i.size ≤ post.length := by
          have h2 : 1 * i.size ≤ (c - n) * i.size := Nat.mul_le_mul_right _ (by omega)
          omega
        simp [hl, hcs]; omega
      have hst := run_storeCells_at P g (pre.length + n * i.size) e cs.toList 0 _ w hbk hfit h1
      have hfc := run_firstCells_some (P := P) w i.size 1 ⟨b, 0, none⟩ 1 c1 cs.toList hcl hnews
      generalize hw2 : w.setRow g _ = w2 at hst
      have hrun : (Builtin.append_ #[t, t] ty #[.slice (some ⟨g, pre.length, none⟩) n c, .slice (some ⟨b, 0, none⟩) 1 c1]).run P w = .ok (.slice (some ⟨g, pre.length, none⟩) (n + 1) c) w2 := by
        simp only [Array.toArray_toList] at hfc
        simp [Builtin.append_, run_underlying ht, sizeOf, typeInfo, hi, Builtin.lenOf, hroom, hfc, Addr.add_lit, hst]
      subst hw2
      refine ⟨g, pre, post.drop i.size, c, _, hrun, hbg, ?_, hroom, hcm, ?_, ?_, .inl rfl⟩
      · refine (setRow_heap w g _ _ e (0, 0) hbk).trans ?_
        congr 3
        simp only [Nat.add_zero]
        have e1 : pre.length + n * i.size = (pre ++ xs).length := by simp [hl]
        have e2 : pre ++ (xs ++ post) = (pre ++ xs) ++ post := by simp
        simp only [e1]
        rw [e2, List.take_left, List.drop_append, List.drop_eq_nil_of_le (by omega)]
        simp [hcs]
      · have : (c - n) * i.size = (c - (n + 1)) * i.size + i.size := by
          rw [show c - n = (c - (n + 1)) + 1 by omega, Nat.add_mul, Nat.one_mul]
        simp; omega
      · exact ⟨rfl, rfl, rfl, by simp [World.setRow], fun k _ hk => setRow_other w g k _ (fun e => hk (by simp [e]))⟩
  · have hgr : ∀ (old : Nat), old < n + 1 →
        base ≤ w.heap.size ∧ Bk (w.drew.alloc (.cells (xs.toArray ++ cs.toList.toArray ++ Builtin.zeroCells z.cells (grownCap w (n + 1) old e - (n + 1))) e)) w.heap.size e
          (([] : List Value) ++ ((xs ++ cs.toList) ++ (Builtin.zeroCells z.cells (grownCap w (n + 1) old e - (n + 1))).toList)).toArray ∧ n + 1 ≤ grownCap w (n + 1) old e ∧ grownCap w (n + 1) old e ≤ maxLen ∧
          (grownCap w (n + 1) old e - (n + 1)) * i.size ≤ (Builtin.zeroCells z.cells (grownCap w (n + 1) old e - (n + 1))).toList.length ∧
          w.grownBy (w.drew.alloc (.cells (xs.toArray ++ cs.toList.toArray ++ Builtin.zeroCells z.cells (grownCap w (n + 1) old e - (n + 1))) e)) (A.map (·.block)) := by
      intro old ho
      refine ⟨hbase, ?_, grownCap_ge w (n + 1) old e, grownCap_le_maxLen w (n + 1) old e h63, by simp [size_zeroCells, hzs], ⟨rfl, rfl, rfl, by simp, fun k hk _ => Below.heap_alloc w.drew _ k hk⟩⟩
      refine (heap_alloc_new w.drew _).trans ?_
      congr 2
      apply Array.ext'
      simp
    rcases hA with ⟨rfl, rfl⟩ | ⟨g, pre, post, rfl, hbg, hbk, hp⟩
    · obtain rfl : n = 0 := by omega
      have hx : xs = [] := List.eq_nil_of_length_eq_zero (by simpa using hl)
      subst hx
      have hr2 := run_append_nil (P := P) w t ty e i z ht hi hz ⟨b, 0, none⟩ 1 c1 cs.toList hcl hnews (by omega) (by omega) (by have hb := hbytes; simp only [Nat.zero_add] at hb; omega)
      obtain ⟨k1, k2, k3, k4, k5, k6⟩ := hgr 0 (by omega)
      simp only [Nat.zero_add, Array.empty_append] at hr2 k1 k2 k3 k4 k5 k6 ⊢
      refine ⟨w.heap.size, [], _, _, _, hr2, k1, ?_, k3, k4, k5, ?_, .inr rfl⟩
      · simpa using k2
      · simpa using k6
    · have hcn : c = n := by omega
      subst hcn
      have holds : ∀ j u, xs[j]? = some u → w.cell? ((⟨g, pre.length, none⟩ : Addr).add j) = some u := by
        intro j u hu
        rw [Addr.add_lit]
        refine (hbk.cell _).trans ?_
        have hj : j < xs.length := (List.getElem?_eq_some_iff.1 hu).1
        rw [List.getElem?_toArray, List.getElem?_append_right (by omega), Nat.add_sub_cancel_left, List.getElem?_append_left hj]
        exact hu
      have hr2 := run_append_grow (P := P) w t ty e i z ht hi hz ⟨g, pre.length, none⟩ c c xs hl holds ⟨b, 0, none⟩ 1 c1 cs.toList hcl hnews (by omega) (by omega) (growslice_fits (by omega) hbytes)
      obtain ⟨k1, k2, k3, k4, k5, k6⟩ := hgr c (by omega)
      exact ⟨w.heap.size, [], _, _, _, hr2, k1, k2, k3, k4, k5, k6, .inr rfl⟩

theorem wpList_append_sh {ops : Array Oper} {rest : List Oper} {o : Oper} {a : Act} {Q : Exit → Act → World → Prop} (hgd : o.guard = none) (s x : Operand) (t : TypeId)
    (ho : o.op = .call { callee := .builtin .append, args := #[s, x], argTypes := #[t, t] })
    (base : Nat) (e : TypeId) (i : TypeInfo) (z : Value) (size bytes : Nat) (ht : P.underlying t = some (.slice e)) (hi : P.info? e = some i) (hz : i.zero = some z)
    (hsize : i.size = size) (hby : i.bytes = bytes) (hzs : z.cells.size = size) (hsz : 0 < size)
    (A : Option Addr) (n c : Nat) (xs : List Value) (hs : a.eval s = .slice A n c) (hown : Sh w base e size A n c xs)
    (b c1 : Nat) (t' : TypeId) (cs : Array Value) (hx : a.eval x = .slice (some ⟨b, 0, none⟩) 1 c1) (hr : Bk w b t' cs) (hcs : cs.size = size) (h1 : ∀ u ∈ cs.toList, u.oneCell' = true)
    (n' : Nat) (hn' : n' = n + 1) (h63 : n' ≤ maxLen) (hbytes : n' * bytes ≤ 140737488355328) (hbase : base ≤ w.heap.size)
    (h : ∀ g pre post c' w', base ≤ g → Hid (Bk w' g e (pre ++ ((xs ++ cs.toList) ++ post)).toArray) → n' ≤ c' → c' ≤ maxLen → Hid ((c' - n') * size ≤ post.length) → w.grownBy w' (A.map (·.block)) → (A.map (·.block) = some g ∨ g = w.heap.size) →
      wpList P ops Q rest (a.put o.dst (.slice (some ⟨g, pre.length, none⟩) n' c')) w') : wpList P ops Q (o :: rest) a w := by
  refine wpList_plain hgd fun K hK => ?_
  obtain ⟨g, pre, post, c', w', hrun, h2, h3, h4, h5, h6, h7, h8⟩ := run_append_sh (P := P) w base t o.type e i z size bytes ht hi hz hsize hby hzs hsz A n c xs hown b c1 t' cs hr hcs h1 n' hn' h63 hbytes hbase
  unfold Oper.wp execOp
  simp only [ho, resolve, invoke, builtin, Sem.run_bind, Sem.run_pure, Result.andThen_ok, List.map_toArray, List.map_cons, List.map_nil, hs, hx, hrun]
  exact hK _ _ (h g pre post c' w' h2 (Lib.hid h3) h4 h5 (Lib.hid h6) h7 h8)
end


theorem Sh.rd {w : World} {base n c size : Nat} {e : TypeId} {A : Option Addr} {xs : List Value} (h : Sh w base e size A n c xs) : Rd w w.heap.size size A n xs :=
  ⟨h.1, fun hn => by
    obtain ⟨g, o, cs, rfl, _, hb, hc⟩ := h.open_ hn
    exact ⟨g, o, rfl, hb.lt, hc⟩⟩
theorem Sh.ne {w : World} {base n c size g : Nat} {e t : TypeId} {A : Option Addr} {xs : List Value} {cs : Array Value} (h : Sh w base e size A n c xs) (hg : Bk w g t cs) (hne : e ≠ t) : some g ≠ A.map (·.block) := by
  intro he
  rcases h.2.2.2 with ⟨rfl, _⟩ | ⟨g', pre, post, rfl, _, hb, _⟩
  · cases he
  · injection he with he
    subst he
    exact Bk.ne_ hb hg hne rfl
theorem Sh.below {w w' : World} {base n c size : Nat} {e : TypeId} {A : Option Addr} {xs : List Value} (h : Sh w base e size A n c xs) (hb : Below w.heap.size w w') : Sh w' base e size A n c xs :=
  h.keep fun g cs _ hk => hk.below hb hk.lt
/-- Cut in front. -/
theorem Sh.tl {w : World} {base n c : Nat} {e : TypeId} {g o : Nat} {x : Value} {xs : List Value} (h : Sh w base e 1 (some ⟨g, o, none⟩) (n + 1) c (x :: xs)) : Sh w base e 1 (some ⟨g, o + 1, none⟩) n (c - 1) xs := by
  obtain ⟨h1, h2, h3, h4⟩ := h
  rcases h4 with ⟨h4, _⟩ | ⟨g', pre, post, he, hb, hbk, hp⟩
  · cases h4
  · injection he with he
    injection he with e1 e2
    subst e1 e2
    refine ⟨by simp at h1 ⊢; omega, by omega, by omega, .inr ⟨g, pre ++ [x], post, by simp, hb, ?_, by simp at hp ⊢; omega⟩⟩
    have : pre ++ [x] ++ (xs ++ post) = pre ++ (x :: xs ++ post) := by simp
    rw [this]; exact hbk
end Go.Proofs.Ytnidcmhfbkdioaa
