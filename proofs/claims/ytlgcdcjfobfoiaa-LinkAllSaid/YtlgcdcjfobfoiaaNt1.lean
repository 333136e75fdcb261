/-
  A slice of the call's own that has been cut in front ('Sh'); append of one element onto it; copy within one block; what a network's call leaves as it was ('Kq'). No condition: plain lemmas.
-/
import Derived.Test.YtlgcdcjfobfoiaaMk
import Derived.Laws.CopyOwn
import Derived.ArgAppend
namespace Go.Proofs.Ytlgcdcjfobfoiaa
open Go.RowKit
set_option maxRecDepth 100000

def Sh (w : World) (base : Nat) (e : TypeId) (size : Nat) (A : Option Addr) (n c : Nat) (xs : List Value) : Prop :=
  xs.length = n * size ∧ n ≤ c ∧ c ≤ maxLen ∧ (A = none ∧ c = 0 ∨ ∃ g pre post, A = some ⟨g, pre.length, none⟩ ∧ base ≤ g ∧ Bk w g e (pre ++ (xs ++ post)).toArray ∧ (c - n) * size ≤ post.length)

section
variable {w w' : World} {base n c size : Nat} {e : TypeId} {A : Option Addr} {xs : List Value}
theorem Sh.nil_ (w : World) (base : Nat) (e : TypeId) (size : Nat) : Sh w base e size none 0 0 [] := ⟨by simp, Nat.le_refl _, Nat.zero_le _, .inl ⟨rfl, rfl⟩⟩
theorem Sh.keep (h : Sh w base e size A n c xs) (hk : ∀ g cs, A.map (·.block) = some g → Bk w g e cs → Bk w' g e cs) : Sh w' base e size A n c xs := by
  obtain ⟨h1, h2, h3, h4⟩ := h
  refine ⟨h1, h2, h3, ?_⟩
  rcases h4 with h4 | ⟨g, pre, post, rfl, hb, hbk, hp⟩
  · exact .inl h4
  · exact .inr ⟨g, pre, post, rfl, hb, hk g _ rfl hbk, hp⟩
/-- The cells, all of one block. -/
theorem Sh.open_ (h : Sh w base e size A n c xs) (hn : 0 < n) : ∃ g o cs, A = some ⟨g, o, none⟩ ∧ base ≤ g ∧ Bk w g e cs ∧ ∀ j u, xs[j]? = some u → w.cell? ⟨g, o + j, none⟩ = some u := by
  obtain ⟨h1, h2, h3, h4⟩ := h
  rcases h4 with ⟨_, rfl⟩ | ⟨g, pre, post, rfl, hb, hbk, hp⟩
  · omega
  · refine ⟨g, _, _, rfl, hb, hbk, fun j u hu => (hbk.cell _).trans ?_⟩
    have hj : j < xs.length := (List.getElem?_eq_some_iff.1 hu).1
    rw [List.getElem?_toArray, List.getElem?_append_right (by omega), Nat.add_sub_cancel_left, List.getElem?_append_left hj]
    exact hu
end

/-! ### append of one element onto such a slice -/
section
variable {P : Program} (w : World)
theorem run_append_sh (base : Nat) (t ty e : TypeId) (i : TypeInfo) (z : Value) (size bytes : Nat) (ht : P.underlying t = some (.slice e)) (hi : P.info? e = some i) (hz : i.zero = some z)
    (hsize : i.size = size) (hby : i.bytes = bytes) (hzs : z.cells.size = size) (hsz : 0 < size)
    (A : Option Addr) (n c : Nat) (xs : List Value) (hs : Sh w base e size A n c xs)
    (b c1 : Nat) (t' : TypeId) (cs : Array Value) (hr : Bk w b t' cs) (hcs : cs.size = size) (h1 : ∀ u ∈ cs.toList, u.oneCell' = true)
    (n' : Nat) (hn' : n' = n + 1) (h63 : n' ≤ maxLen) (hbytes : n' * bytes ≤ 140737488355328) (hbase : base ≤ w.heap.size) :
    ∃ g pre post c' w', (Builtin.append_ #[t, t] ty #[.slice A n c, .slice (some ⟨b, 0, none⟩) 1 c1]).run P w = .ok (.slice (some ⟨g, pre.length, none⟩) n' c') w' ∧
      base ≤ g ∧ Bk w' g e (pre ++ ((xs ++ cs.toList) ++ post)).toArray ∧ n' ≤ c' ∧ c' ≤ maxLen ∧ (c' - n') * size ≤ post.length ∧ w.grownBy w' (A.map (·.block)) ∧ (A.map (·.block) = some g ∨ g = w.heap.size) := by
  subst hn' hsize hby
  obtain ⟨hl, hnc, hcm, hA⟩ := hs
  have hnews : ∀ j u, cs.toList[j]? = some u → w.cell? ((⟨b, 0, none⟩ : Addr).add j) = some u := by
    intro j u hu
    rw [Addr.add_lit, Nat.zero_add]
    exact (hr.cell j).trans (by simpa using hu)
  have hcl : cs.toList.length = 1 * i.size := by simp [hcs]
  have hsmall : n + 1 ≤ 9223372036854775807 := by simp only [maxLen] at h63; omega
  have hlen : (xs ++ cs.toList).length = (n + 1) * i.size := by rw [List.length_append, hl, hcl, Nat.add_mul]
  by_cases hroom : n + 1 ≤ c
  · rcases hA with ⟨_, rfl⟩ | ⟨g, pre, post, rfl, hbg, hbk, hp⟩
    · omega
    · have hfit : (pre.length + n * i.size) + 0 + cs.toList.length ≤ (pre ++ (xs ++ post)).toArray.size := by
        have : i.size ≤ post.length := by
          have h2 : 1 * i.size ≤ (c - n) * i.size := Nat.mul_le_mul_right _ (by omega)
          omega
        simp [hl, hcs]; omega
      have hst := run_storeCells_at P g (pre.length + n * i.size) e cs.toList 0 _ w hbk hfit h1
      have hfc := run_firstCells_some (P := P) w i.size 1 ⟨b, 0, none⟩ 1 c1 cs.toList hcl hnews
      generalize hw2 : w.setRow g _ = w2 at hst
      have hrun : (Builtin.append_ #[t, t] ty #[.slice (some ⟨g, pre.length, none⟩) n c, .slice (some ⟨b, 0, none⟩) 1 c1]).run P w = .ok (.slice (some ⟨g, pre.length, none⟩) (n + 1) c) w2 := by
        simp only [Array.toArray_toList] at hfc
        simp [Builtin.append_, run_underlying ht, sizeOf, typeInfo, hi, Builtin.lenOf, hroom, hfc, Addr.add_lit, hst]
      subst hw2
      refine ⟨g, pre, post.drop i.size, c, _, hrun, hbg, ?_, hroom, hcm, ?_, ?_, .inl rfl⟩
      · refine (setRow_heap w g _ _ e (0, 0) hbk).trans ?_
        congr 3
        simp only [Nat.add_zero]
        have e1 : pre.length + n * i.size = (pre ++ xs).length := by simp [hl]
        have e2 : pre ++ (xs ++ post) = (pre ++ xs) ++ post := by simp
        simp only [e1]
        rw [e2, List.take_left, List.drop_append, List.drop_eq_nil_of_le (by omega)]
        simp [hcs]
      · have : (c - n) * i.size = (c - (n + 1)) * i.size + i.size := by
          rw [show c - n = (c - (n + 1)) + 1 by omega, Nat.add_mul, Nat.one_mul]
        simp; omega
      · exact ⟨rfl, rfl, rfl, by simp [World.setRow], fun k _ hk => setRow_other w g k _ (fun e => hk (by simp [e]))⟩
  · have hgr : ∀ (old : Nat), old < n + 1 →
        base ≤ w.heap.size ∧ Bk (w.drew.alloc (.cells (xs.toArray ++ cs.toList.toArray ++ Builtin.zeroCells z.cells (grownCap w (n + 1) old e - (n + 1))) e)) w.heap.size e
          (([] : List Value) ++ ((xs ++ cs.toList) ++ (Builtin.zeroCells z.cells (grownCap w (n + 1) old e - (n + 1))).toList)).toArray ∧ n + 1 ≤ grownCap w (n + 1) old e ∧ grownCap w (n + 1) old e ≤ maxLen ∧
          (grownCap w (n + 1) old e - (n + 1)) * i.size ≤ (Builtin.zeroCells z.cells (grownCap w (n + 1) old e - (n + 1))).toList.length ∧
          w.grownBy (w.drew.alloc (.cells (xs.toArray ++ cs.toList.toArray ++ Builtin.zeroCells z.cells (grownCap w (n + 1) old e - (n + 1))) e)) (A.map (·.block)) := by
      intro old ho
      refine ⟨hbase, ?_, grownCap_ge w (n + 1) old e, grownCap_le_maxLen w (n + 1) old e h63, by simp [size_zeroCells, hzs], ⟨rfl, rfl, rfl, by simp, fun k hk _ => Below.heap_alloc w.drew _ k hk⟩⟩
      refine (heap_alloc_new w.drew _).trans ?_
      congr 2
      apply Array.ext'
      simp
    rcases hA with ⟨rfl, rfl⟩ | ⟨g, pre, post, rfl, hbg, hbk, hp⟩
    · obtain rfl : n = 0 := by omega
      have hx : xs = [] := List.eq_nil_of_length_eq_zero (by simpa using hl)
      subst hx
      have hr2 := run_append_nil (P := P) w t ty e i z ht hi hz ⟨b, 0, none⟩ 1 c1 cs.toList hcl hnews (by omega) (by omega) (by have hb := hbytes; simp only [Nat.zero_add] at hb; omega)
      obtain ⟨k1, k2, k3, k4, k5, k6⟩ := hgr 0 (by omega)
      simp only [Nat.zero_add, Array.empty_append] at hr2 k1 k2 k3 k4 k5 k6 ⊢
      refine ⟨w.heap.size, [], _, _, _, hr2, k1, ?_, k3, k4, k5, ?_, .inr rfl⟩
      · simpa using k2
      · simpa using k6
    · have hcn : c = n := by omega
      subst hcn
      have holds : ∀ j u, xs[j]? = some u → w.cell? ((⟨g, pre.length, none⟩ : Addr).add j) = some u := by
        intro j u hu
        rw [Addr.add_lit]
        refine (hbk.cell _).trans ?_
        have hj : j < xs.length := (List.getElem?_eq_some_iff.1 hu).1
        rw [List.getElem?_toArray, List.getElem?_append_right (by omega), Nat.add_sub_cancel_left, List.getElem?_append_left hj]
        exact hu
      have hr2 := run_append_grow (P := P) w t ty e i z ht hi hz ⟨g, pre.length, none⟩ c c xs hl holds ⟨b, 0, none⟩ 1 c1 cs.toList hcl hnews (by omega) (by omega) (growslice_fits (by omega) hbytes)
      obtain ⟨k1, k2, k3, k4, k5, k6⟩ := hgr c (by omega)
      exact ⟨w.heap.size, [], _, _, _, hr2, k1, k2, k3, k4, k5, k6, .inr rfl⟩

theorem wpList_append_sh {ops : Array Oper} {rest : List Oper} {o : Oper} {a : Act} {Q : Exit → Act → World → Prop} (hgd : o.guard = none) (s x : Operand) (t : TypeId)
    (ho : o.op = .call { callee := .builtin .append, args := #[s, x], argTypes := #[t, t] })
    (base : Nat) (e : TypeId) (i : TypeInfo) (z : Value) (size bytes : Nat) (ht : P.underlying t = some (.slice e)) (hi : P.info? e = some i) (hz : i.zero = some z)
    (hsize : i.size = size) (hby : i.bytes = bytes) (hzs : z.cells.size = size) (hsz : 0 < size)
    (A : Option Addr) (n c : Nat) (xs : List Value) (hs : a.eval s = .slice A n c) (hown : Sh w base e size A n c xs)
    (b c1 : Nat) (t' : TypeId) (cs : Array Value) (hx : a.eval x = .slice (some ⟨b, 0, none⟩) 1 c1) (hr : Bk w b t' cs) (hcs : cs.size = size) (h1 : ∀ u ∈ cs.toList, u.oneCell' = true)
    (n' : Nat) (hn' : n' = n + 1) (h63 : n' ≤ maxLen) (hbytes : n' * bytes ≤ 140737488355328) (hbase : base ≤ w.heap.size)
    (h : ∀ g pre post c' w', base ≤ g → Hid (Bk w' g e (pre ++ ((xs ++ cs.toList) ++ post)).toArray) → n' ≤ c' → c' ≤ maxLen → Hid ((c' - n') * size ≤ post.length) → w.grownBy w' (A.map (·.block)) → (A.map (·.block) = some g ∨ g = w.heap.size) →
      wpList P ops Q rest (a.put o.dst (.slice (some ⟨g, pre.length, none⟩) n' c')) w') : wpList P ops Q (o :: rest) a w := by
  refine wpList_plain hgd fun K hK => ?_
  obtain ⟨g, pre, post, c', w', hrun, h2, h3, h4, h5, h6, h7, h8⟩ := run_append_sh (P := P) w base t o.type e i z size bytes ht hi hz hsize hby hzs hsz A n c xs hown b c1 t' cs hr hcs h1 n' hn' h63 hbytes hbase
  unfold Oper.wp execOp
  simp only [ho, resolve, invoke, builtin, Sem.run_bind, Sem.run_pure, Result.andThen_ok, List.map_toArray, List.map_cons, List.map_nil, hs, hx, hrun]
  exact hK _ _ (h g pre post c' w' h2 (Lib.hid h3) h4 h5 (Lib.hid h6) h7 h8)
end

/-! ### copy of elements of several cells -/
section
variable {P : Program}
theorem run_copy_rowN (w : World) (dT sT ty elem : TypeId) (size : Nat) (g o dLen dCap : Nat) (a : Addr) (sLen sCap : Nat) (cur : Array Value) (t : TypeId) (cs : List Value)
    (hu : P.underlying dT = some (.slice elem)) (hs : (P.info? elem).map (·.size) = some size)
    (hg : w.heap[g]? = some (.cells cur t (0, 0))) (k : Nat) (hk : k = Nat.min sLen dLen) (hn : cs.length = k * size)
    (hsrc : ∀ j v, cs[j]? = some v → w.cell? (a.add j) = some v) (hfit : o + cs.length ≤ cur.size) (h1 : ∀ v ∈ cs, v.oneCell' = true) :
    (Builtin.copy_ #[dT, sT] ty #[.slice (some ⟨g, o, none⟩) dLen dCap, .slice (some a) sLen sCap]).run P w =
      .ok (goInt k) (w.setRow g (cur.toList.take o ++ cs ++ cur.toList.drop (o + cs.length)).toArray) := by
  have hl := run_loadCells_list (P := P) w a cs hsrc
  have hst := run_storeCells_at P g o t cs 0 cur w hg (by simpa using hfit) h1
  cases hq : P.info? elem with
  | none => simp [hq] at hs
  | some i =>
    have hi : i.size = size := by simpa [hq] using hs
    rw [hn] at hl
    simp [Builtin.copy_, run_underlying hu, Builtin.lenOf, Builtin.firstCells, sizeOf, typeInfo, hq, hi, ← hk, hl, hst]

theorem run_copy_noneN (w : World) (dT sT ty elem : TypeId) (size : Nat) (d a : Option Addr) (dLen dCap sLen sCap : Nat) (hu : P.underlying dT = some (.slice elem)) (hs : (P.info? elem).map (·.size) = some size) (hn : Nat.min sLen dLen = 0) :
    (Builtin.copy_ #[dT, sT] ty #[.slice d dLen dCap, .slice a sLen sCap]).run P w = .ok (goInt 0) w := by
  cases hq : P.info? elem with
  | none => simp [hq] at hs
  | some i =>
    cases d <;> cases a <;> simp [Builtin.copy_, run_underlying hu, Builtin.lenOf, Builtin.firstCells, sizeOf, typeInfo, hq, hn, loadCells, loadCellsFrom, storeCells]

theorem step_copy_spliceN {ops : Array Oper} {o : Oper} {a : Act} {w : World} {K : Act → World → Prop} {Q : Exit → Act → World → Prop} {E : Prop} (hgd : o.guard = none) (d s : Operand) (dT sT : TypeId)
    (ho : o.op = .call { callee := .builtin .copy, args := #[d, s], argTypes := #[dT, sT] }) (elem : TypeId) (size : Nat) (hu : P.underlying dT = some (.slice elem)) (hsz : (P.info? elem).map (·.size) = some size)
    (dp sp : Option Addr) (dLen dCap sLen sCap : Nat) (hd : a.eval d = .slice dp dLen dCap) (hs : a.eval s = .slice sp sLen sCap)
    (g off : Nat) (cur : List Value) (t : TypeId) (hg : w.heap[g]? = some (.cells cur.toArray t (0, 0))) (cs : List Value) (k : Nat) (hk : k = Nat.min sLen dLen) (hn : cs.length = k * size)
    (hpos : 0 < k → dp = some ⟨g, off, none⟩ ∧ ∃ ad, sp = some ad ∧ ∀ j v, cs[j]? = some v → w.cell? (ad.add j) = some v)
    (hfit : off + cs.length ≤ cur.length) (h1 : ∀ v ∈ cs, v.oneCell' = true)
    (h : ∀ w', RowKit.Hid (w'.heap[g]? = some (.cells (splice cur off cs).toArray t (0, 0))) → w.grownBy w' (some g) → K (a.put o.dst (goInt k)) w') :
    if Region.wanted o (yielded ops a.tmps) = true then Oper.wp P o a w K Q else E := by
  have hw : Region.wanted o (yielded ops a.tmps) = true := by simp [Region.wanted, hgd]
  rw [if_pos hw]
  by_cases h0 : k = 0
  · subst h0
    obtain rfl : cs = [] := List.eq_nil_of_length_eq_zero (by simpa using hn)
    have hrun := run_copy_noneN (P := P) w dT sT o.type elem size dp sp dLen dCap sLen sCap hu hsz hk.symm
    unfold Oper.wp
    simp [execOp, ho, resolve, invoke, builtin, hd, hs, hrun, Result.andThen]
    exact h w (show _ = _ by simpa [splice] using hg) (World.grownBy.refl w _)
  · obtain ⟨rfl, ad, rfl, hsrc⟩ := hpos (by omega)
    have hrun := run_copy_rowN (P := P) w dT sT o.type elem size g off dLen dCap ad sLen sCap cur.toArray t cs hu hsz hg k hk hn hsrc (by simpa using hfit) h1
    unfold Oper.wp
    simp [execOp, ho, resolve, invoke, builtin, hd, hs, hrun, Result.andThen]
    exact h _ (show _ = _ by simpa [splice] using setRow_heap w g _ _ t _ hg) ⟨rfl, rfl, rfl, by simp [World.setRow], fun j _ hj => setRow_other w g j _ (fun e => hj (by simp [e]))⟩
end

/-! ### What a network's call leaves as it was: what lies below 'base', and all blocks but networks and flights -/
structure Kq (base : Nat) (w w' : World) : Prop where
  os : w'.os = w.os
  tape : w'.tape = w.tape
  output : w'.output = w.output
  size : w.heap.size ≤ w'.heap.size
  low : ∀ k, k < base → k < w.heap.size → w'.heap[k]? = w.heap[k]?
  block : ∀ k t cs, Bk w k t cs → t ≠ 110 → t ≠ 113 → Bk w' k t cs
section
variable {base : Nat} {a b c w w' : World}
theorem Kq.refl : Kq base w w := ⟨rfl, rfl, rfl, Nat.le_refl _, fun _ _ _ => rfl, fun _ _ _ h _ _ => h⟩
theorem Kq.trans (h : Kq base a b) (k : Kq base b c) : Kq base a c :=
  ⟨k.os.trans h.os, k.tape.trans h.tape, k.output.trans h.output, Nat.le_trans h.size k.size,
   fun i h1 h2 => (k.low i h1 (Nat.lt_of_lt_of_le h2 h.size)).trans (h.low i h1 h2),
   fun i t cs h1 h2 h3 => k.block i t cs (h.block i t cs h1 h2 h3) h2 h3⟩
theorem Kq.drew (h : Kq base a w) : Kq base a w.drew := ⟨h.os, h.tape, h.output, h.size, h.low, h.block⟩
theorem Kq.drewN (h : Kq base a w) (n : Nat) : Kq base a (w.drewN n) := ⟨h.os, h.tape, h.output, h.size, h.low, h.block⟩
theorem Kq.alloc (h : Kq base a w) (o : Obj) : Kq base a (w.alloc o) :=
  h.trans ⟨rfl, rfl, rfl, by simp, fun k _ hk => Below.heap_alloc _ _ _ hk, fun _ _ _ hk _ _ => hk.alloc o⟩
/-- A store into a network or a flight. -/
theorem Kq.setG {g : Nat} {t : TypeId} {cs : Array Value} (h : Kq base a w) (hb : base ≤ g) (hg : Bk w g t cs) (ht : t = 110 ∨ t = 113) (i : Nat) (u : Value) : Kq base a (w.setCell ⟨g, i, none⟩ u) := by
  refine h.trans ⟨rfl, rfl, rfl, by simp [World.setCell], fun k hk _ => Below.heap_setCell _ _ _ _ (by show k ≠ g; omega), fun k t' cs' hk h1 h2 => hk.far (fun e => ?_) u⟩
  obtain rfl : k = g := e
  exact Bk.ne_ hk hg (by rcases ht with rfl | rfl <;> assumption) rfl
theorem Kq.grown {row : Option Nat} (h : Kq base a w) (hg : w.grownBy w' row) (hr : ∀ g, row = some g → base ≤ g ∧ ∃ t cs, Bk w g t cs ∧ (t = 110 ∨ t = 113)) : Kq base a w' := by
  refine h.trans ⟨hg.os, hg.tape, hg.output, hg.size, fun k h1 h2 => hg.block k h2 (fun e1 => ?_), fun k t cs hk h1 h2 => hk.grown hg (fun e1 => ?_)⟩
  · have := (hr k e1.symm).1; omega
  · obtain ⟨_, t', cs', hb, ht⟩ := hr k e1.symm
    exact Bk.ne_ hk hb (by rcases ht with rfl | rfl <;> assumption) rfl
theorem Kq.below (h : Kq base a w) (hb : base ≤ a.heap.size) : Below base a w := ⟨h.os, h.tape, h.output, h.size, fun k hk => h.low k hk (by omega)⟩
theorem Kq.of_below {B : Nat} (h : Below B w w') (hB : w.heap.size ≤ B) : Kq base w w' :=
  ⟨h.os, h.tape, h.output, h.size, fun k _ hk => h.block k (by omega), fun k _ _ hk _ _ => (h.block k (by have := hk.lt; omega)).trans hk⟩
end

end Go.Proofs.Ytlgcdcjfobfoiaa
