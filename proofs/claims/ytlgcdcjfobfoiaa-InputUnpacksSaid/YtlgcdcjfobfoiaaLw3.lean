/-
  The walk of the law InputUnpacks. Conditions: numbers that fit their kinds, sizes within the reach.
-/
import Derived.Test.YtlgcdcjfobfoiaaUc
namespace Go.Proofs.Ytlgcdcjfobfoiaa
open Go.RowKit
set_option maxRecDepth 100000

theorem inCs_set : ∀ {l : List Inp} {k m : Nat} {x x' : Inp} {v : Value}, l[k]? = some x → m < 3 → x'.cs = x.cs.set m v → (inCs l).set (k * 3 + m) v = inCs (l.set k x') := by
  intro l
  induction l with
  | nil => intro k m x x' v h _ _; simp at h
  | cons a l ih =>
    intro k m x x' v h hm hx
    have e : inCs (a :: l) = a.cs ++ inCs l := by simp [inCs]
    have h3 : a.cs.length = 3 := rfl
    cases k with
    | zero =>
      simp at h; subst h
      rw [e, List.set_append_left _ _ (by omega)]
      simp [inCs, hx]
    | succ k =>
      rw [e, List.set_append_right _ _ (by omega), h3]
      have := ih (k := k) (m := m) (v := v) (x' := x') (by simpa using h) hm hx
      rw [show (k + 1) * 3 + m - 3 = k * 3 + m by omega, this]
      simp [inCs]

theorem own_k2 {w w' : World} {base : Nat} {e : TypeId} {size n g h : Nat} {v : Value} {xs : List Value} (ho : w.ownsRow base e size v n xs) (k : K2 g h w w') (h1 : v.ownBlock ≠ some g) (h2 : v.ownBlock ≠ some h) : w'.ownsRow base e size v n xs := by
  refine ⟨ho.1, ?_⟩
  rcases ho.2 with hv | ⟨q, cap, cur, hv, hq, hh, r⟩
  · exact .inl hv
  · refine .inr ⟨q, cap, cur, hv, hq, ?_, r⟩
    rw [k.block q (fun e1 => h1 (by rw [hv, e1]; rfl)) (fun e1 => h2 (by rw [hv, e1]; rfl))]
    exact hh

/-- The law's memory in its loop. -/
structure LkS (W0 wr : World) (ab sb gw cw n p : Nat) (s : Bool) (WL : List Inp) : Prop where
  a : Bk wr ab 3 #[.int .i64 p]
  s : Bk wr sb 4 #[.bool s]
  own : wr.ownsRow W0.heap.size 24 3 (.slice (some ⟨gw, 0, none⟩) n cw) n (inCs WL)
  len : WL.length = n
  below : Below W0.heap.size W0 wr

theorem LkS.step {W0 w w' : World} {ab bb sb gw cw n p p' : Nat} {s s' : Bool} {WL : List Inp} {v : Int} {e : Ending} (h : LkS W0 w ab sb gw cw n p s WL) (hc : GetL w ab bb sb v p' s' e w') (h1 : W0.heap.size ≤ ab) (h2 : W0.heap.size ≤ sb) : LkS W0 w' ab sb gw cw n p' s' WL := by
  obtain ⟨_, k1, k2, k3⟩ := hc
  exact ⟨k1, k2, own_k2 h.own k3 (own_ne h.own h.a (by decide)) (own_ne h.own h.s (by decide)), h.len, h.below.trans (k3.below h1 h2)⟩
theorem LkS.alloc {W0 w : World} {ab sb gw cw n p : Nat} {s : Bool} {WL : List Inp} (h : LkS W0 w ab sb gw cw n p s WL) (o : Obj) : LkS W0 (w.alloc o) ab sb gw cw n p s WL :=
  ⟨h.a.alloc o, h.s.alloc o, h.own.alloc o, h.len, h.below.alloc h.below.size o⟩
theorem LkS.drew {W0 w : World} {ab sb gw cw n p : Nat} {s : Bool} {WL : List Inp} (h : LkS W0 w ab sb gw cw n p s WL) : LkS W0 w.drew ab sb gw cw n p s WL :=
  ⟨h.a, h.s, h.own, h.len, h.below.drew⟩
theorem LkS.put {W0 w : World} {ab sb gw cw n p k m : Nat} {s : Bool} {WL : List Inp} {x x' : Inp} {v : Value} (h : LkS W0 w ab sb gw cw n p s WL) (hx : WL[k]? = some x) (hm : m < 3) (hv : x'.cs = x.cs.set m v) : LkS W0 (w.setCell ⟨gw, k * 3 + m, none⟩ v) ab sb gw cw n p s (WL.set k x') := by
  have hga : gw ≠ ab := fun e1 => own_ne h.own h.a (by decide) (by simp [Value.ownBlock, e1])
  have hgs : gw ≠ sb := fun e1 => own_ne h.own h.s (by decide) (by simp [Value.ownBlock, e1])
  refine ⟨h.a.far (p := ⟨gw, k * 3 + m, none⟩) (Ne.symm hga) v, h.s.far (p := ⟨gw, k * 3 + m, none⟩) (Ne.symm hgs) v, ?_, by rw [List.length_set]; exact h.len, h.below.setCell (h.own.lt gw rfl).1 v⟩
  have := (h.own.stored (k * 3 + m) v).1
  rw [inCs_set hx hm hv] at this
  exact this
/-- A cell of 'want'. -/
theorem LkS.cell {W0 w : World} {ab sb gw cw n p k m : Nat} {s : Bool} {WL : List Inp} {x : Inp} (h : LkS W0 w ab sb gw cw n p s WL) (hx : WL[k]? = some x) (hm : m < 3) : w.cell? ⟨gw, k * 3 + m, none⟩ = x.cs[m]? ∧ w.frozen? ⟨gw, k * 3 + m, none⟩ = false := by
  have hk : k < WL.length := by
    rcases Nat.lt_or_ge k WL.length with h | h
    · exact h
    · rw [List.getElem?_eq_none h] at hx; cases hx
  have hl := h.len
  refine ⟨?_, h.own.frozenAt _⟩
  rw [h.own.cellAt _ (by omega), inCs_get _ _ _ hx _ hm]

/-- How far the law's own reading has come. -/
def Hst (l : List Inp) (bs : List Nat) (k p : Nat) (s : Bool) (WL : List Inp) : Prop :=
  (s = false ∧ ∃ xs, parse bs (l.take k) 0 = some (xs, p) ∧ WL = xs ++ l.drop k ∧ xs.length = k) ∨ (s = true ∧ p = 8 * bs.length ∧ parse bs (l.take k) 0 = none)

theorem Hst.none_ {l : List Inp} {bs : List Nat} {k : Nat} {WL : List Inp} {y : Inp} (hy : l[k]? = some y) (h : parse bs (l.take k) 0 = none) : Hst l bs (k + 1) (8 * bs.length) true WL := by
  refine .inr ⟨rfl, rfl, ?_⟩
  rw [List.take_add_one, hy]
  exact parse_none _ _ _ _ h
theorem Hst.fail {l : List Inp} {bs : List Nat} {k p : Nat} {WL xs : List Inp} {y : Inp} (hy : l[k]? = some y) (h : parse bs (l.take k) 0 = some (xs, p)) (ho : oneAt bs y p = none) : Hst l bs (k + 1) (8 * bs.length) true WL := by
  refine .inr ⟨rfl, rfl, ?_⟩
  rw [List.take_add_one, hy]
  show parse bs (l.take k ++ [y]) 0 = none
  rw [parse_snoc, h]; simp [ho]
theorem Hst.next {l : List Inp} {bs : List Nat} {k p q : Nat} {WL xs : List Inp} {y x : Inp} (hy : l[k]? = some y) (h : parse bs (l.take k) 0 = some (xs, p)) (hl : xs.length = k) (ho : oneAt bs y p = some (x, q)) (hW : WL = (xs ++ l.drop k).set k x) : Hst l bs (k + 1) q false WL := by
  refine .inl ⟨rfl, xs ++ [x], ?_, ?_, by simp [hl]⟩
  · rw [List.take_add_one, hy]
    show parse bs (l.take k ++ [y]) 0 = _
    rw [parse_snoc, h]; simp [ho]
  · rw [hW, List.set_append_right _ _ (by omega), hl, Nat.sub_self]
    have hd : l.drop k = y :: l.drop (k + 1) := by
      have hk : k < l.length := by
        rcases Nat.lt_or_ge k l.length with h | h
        · exact h
        · rw [List.getElem?_eq_none h] at hy; cases hy
      rw [List.drop_eq_getElem_cons hk]
      congr 1
      rw [List.getElem?_eq_getElem hk] at hy
      injection hy
    rw [hd]; simp

theorem set_get {l : List Inp} {k : Nat} {x y : Inp} (h : l[k]? = some y) : (l.set k x)[k]? = some x := by
  have hk : k < l.length := by
    rcases Nat.lt_or_ge k l.length with h' | h'
    · exact h'
    · rw [List.getElem?_eq_none h'] at h; cases h
  simp [hk]

/-- What the law's loop reads and never writes. -/
structure Env (W0 : World) (ab bb sb : Nat) (A : Option Addr) (c : Nat) (bs : List Nat) : Prop where
  b : Bk W0 bb 30 #[.slice A bs.length c]
  r : Rd W0 W0.heap.size 1 A bs.length (bytesV bs)
  h1 : W0.heap.size ≤ ab
  h2 : W0.heap.size ≤ sb
  lt : ∀ b ∈ bs, b < 256
  sz : bs.length ≤ 140737488355328

theorem LkS.fit {W0 w : World} {ab bb sb gw cw n p c m : Nat} {s : Bool} {WL : List Inp} {A : Option Addr} {bs : List Nat} (h : LkS W0 w ab sb gw cw n p s WL) (E : Env W0 ab bb sb A c bs) (hm : m ≤ 8) (hf : p + m ≤ 8 * bs.length) :
    Calls Try.prog 41 #[.int .i64 m, .pointer (some ⟨ab, 0, none⟩), .pointer (some ⟨bb, 0, none⟩), .pointer (some ⟨sb, 0, none⟩)] w (GetL w ab bb sb (valAt bs p m) (p + m) s) :=
  (lget_any ab bb sb p m s A c W0.heap.size bs w hm (by omega) E.sz E.lt h.a (E.b.below h.below E.b.lt) h.s (E.r.below h.below) E.h1 E.h2).mono fun _ _ r => r.elim (·.2) fun r => absurd hf r.1
theorem LkS.short {W0 w : World} {ab bb sb gw cw n p c m : Nat} {s : Bool} {WL : List Inp} {A : Option Addr} {bs : List Nat} (h : LkS W0 w ab sb gw cw n p s WL) (E : Env W0 ab bb sb A c bs) (hm : m ≤ 8) (hp : p ≤ 8 * bs.length) (hf : ¬ p + m ≤ 8 * bs.length) :
    Calls Try.prog 41 #[.int .i64 m, .pointer (some ⟨ab, 0, none⟩), .pointer (some ⟨bb, 0, none⟩), .pointer (some ⟨sb, 0, none⟩)] w (GetL w ab bb sb 0 (8 * bs.length) true) :=
  (lget_any ab bb sb p m s A c W0.heap.size bs w hm hp E.sz E.lt h.a (E.b.below h.below E.b.lt) h.s (E.r.below h.below) E.h1 E.h2).mono fun _ _ r => r.elim (fun r => absurd r.1 hf) (·.2)
theorem LkS.fit8 {W0 w : World} {ab bb sb gw cw n p c : Nat} {s : Bool} {WL : List Inp} {A : Option Addr} {bs : List Nat} (h : LkS W0 w ab sb gw cw n p s WL) (E : Env W0 ab bb sb A c bs) (hf : p + 8 ≤ 8 * bs.length) :
    Calls Try.prog 41 #[.int .i64 8, .pointer (some ⟨ab, 0, none⟩), .pointer (some ⟨bb, 0, none⟩), .pointer (some ⟨sb, 0, none⟩)] w (GetL w ab bb sb (valAt bs p 8) (p + 8) s) := h.fit E (m := 8) (by decide) hf
theorem LkS.short8 {W0 w : World} {ab bb sb gw cw n p c : Nat} {s : Bool} {WL : List Inp} {A : Option Addr} {bs : List Nat} (h : LkS W0 w ab sb gw cw n p s WL) (E : Env W0 ab bb sb A c bs) (hp : p ≤ 8 * bs.length) (hf : ¬ p + 8 ≤ 8 * bs.length) :
    Calls Try.prog 41 #[.int .i64 8, .pointer (some ⟨ab, 0, none⟩), .pointer (some ⟨bb, 0, none⟩), .pointer (some ⟨sb, 0, none⟩)] w (GetL w ab bb sb 0 (8 * bs.length) true) := h.short E (m := 8) (by decide) hp hf

/-- The relation of the law's loop. -/
def LkR (l : List Inp) (bs : List Nat) (W0 : World) (ab sb gw cw n k : Nat) (wr : World) : Prop := ∃ p s WL, p ≤ 8 * bs.length ∧ LkS W0 wr ab sb gw cw n p s WL ∧ Hst l bs k p s WL
end Go.Proofs.Ytlgcdcjfobfoiaa
