/-
  Lemmas for the walk, merged (Be Bf). No condition but those in each statement.
-/
import Derived.Maps.Own
import Derived.Maps.Views
import Derived.Test.YtnidcmhfbkdioaaSz32
namespace Go.Proofs.Ytnidcmhfbkdioaa
/-! ### Be -/
open Go.RowKit
set_option maxRecDepth 100000
theorem own_monoB {w : World} {base base' size n : Nat} {e : TypeId} {v : Value} {xs : List Value} (h : w.ownsRow base e size v n xs) (hb : base' ≤ base) : w.ownsRow base' e size v n xs := by
  refine ⟨h.1, ?_⟩
  rcases h.2 with h2 | ⟨g, c, cur, h2, h3, h4⟩
  · exact .inl h2
  · exact .inr ⟨g, c, cur, h2, by omega, h4⟩
/-- A row of values of one's own, or nothing. -/
def RowV (w : World) (base : Nat) (o : Option Cm) (v : Value) : Prop :=
  match o with
  | none => v = .slice none 0 0
  | some cm => ∃ (A' : Option Addr) (c' : Nat), v = .slice A' cm.n c' ∧ w.ownsRow base 3 1 (.slice A' cm.n c') cm.n (cm.vals.map (Value.int .i64))
theorem RowV.keep {w w' : World} {base : Nat} {o : Option Cm} {v : Value} (h : RowV w base o v) (hb : Below w.heap.size w w') : RowV w' base o v := by
  cases o with
  | none => exact h
  | some cm =>
    obtain ⟨A', c', e, ho⟩ := h
    exact ⟨A', c', e, (Kx.of_below (B := 0) (F := []) hb).own ho (by simp)⟩
theorem RowV.at_ {w : World} {base : Nat} {cm : Cm} {v : Value} (h : RowV w base (some cm) v) {N : Nat} (hl : cm.n = cm.vals.length) (hN : cm.vals.length = N) (h0 : 0 < N) :
    ∃ b o c, v = .slice (some ⟨b, o, none⟩) N c ∧ b < w.heap.size ∧ N ≤ c ∧ c ≤ 9223372036854775807 ∧ ∀ j, j < N → w.cell? ⟨b, o + j, none⟩ = some (.int .i64 (atI cm.vals j)) := by
  obtain ⟨A', c', e, ho⟩ := h
  have hc := own_cap2 ho
  have hr := Rd.of_own ho
  obtain ⟨b, o, e2, hb, hce⟩ := hr.2 (by omega)
  subst e2
  refine ⟨b, o, c', by rw [e, hl, hN], hb, by omega, hc.2, fun j hj => hce j _ ?_⟩
  rw [List.getElem?_map, List.getElem?_eq_getElem (by omega)]
  unfold atI
  rw [List.getD_eq_getElem?_getD, List.getElem?_eq_getElem (by omega)]
  rfl
/-! ### Bf -/
/-- A map from numbers to numbers, in block b: what it holds. -/
def MpI (w : World) (b n : Nat) (f : Int → Option Int) : Prop :=
  ∃ D : DataW Unit, w.ownsMap Try.prog 3 (plainElem Try.prog 3) b n D ∧ ∀ (k : Int) (z : DataW Unit), D.atKey (.int .i64 k) z = match f k with | some v => .lit (.int .i64 v) | none => z
theorem MpI.made (w : World) : MpI (w.alloc (.map #[] 0)) w.heap.size 0 fun _ => none :=
  ⟨.map [], World.ownsMap_made w Try.prog 3 _, fun _ _ => rfl⟩
theorem MpI.lt {w : World} {b n : Nat} {f : Int → Option Int} (h : MpI w b n f) : b < w.heap.size := by
  obtain ⟨D, h1, _⟩ := h
  exact h1.lt
theorem MpI.kept {w w' : World} {b n : Nat} {f : Int → Option Int} (h : MpI w b n f) (hb : w'.heap[b]? = w.heap[b]?) : MpI w' b n f := by
  obtain ⟨D, ⟨es, clock, h1, h2⟩, h3⟩ := h
  exact ⟨D, ⟨es, clock, hb.trans h1, h2⟩, h3⟩
theorem lit_inj {a b : Int} (h : (DataW.lit (.int .i64 a) : DataW Unit) = .lit (.int .i64 b)) : a = b := by
  injection h with h
  injection h
/-- 'v, ok := m[k]'. -/
theorem MpI.look {w : World} {b n : Nat} {f : Int → Option Int} (h : MpI w b n f) {t : TypeId} (ht : Try.prog.underlying t = some (.map 3 3)) {k : Int} (hk : (Lit.int .i64 k).wf = true) (wx : World) (hx : wx.heap[b]? = w.heap[b]?) :
    (Instr.lookup t (.map (some b)) (.int .i64 k) true).run Try.prog wx = .ok (.tuple #[.int .i64 ((f k).getD 0), .bool (f k).isSome]) wx := by
  obtain ⟨D, ⟨es, clock, h1, h2, _, hD⟩, h3⟩ := h
  have hz : (zeroValue 3).run Try.prog wx = .ok (.int .i64 0) wx := by kernel_rfl
  subst hD
  rcases Maps.fit_look true (Maps.int_keyed Try.underlying3) ht hz (hx.trans h1) h2 (Maps.keyOf_int_mk Try.underlying3 hk) with ⟨hrun, _, hat⟩ | ⟨e0, y, _, _, hrun, hRv, hat, _⟩
  · rw [hrun]
    cases hf : f k with
    | none => rfl
    | some v =>
      have e := (h3 k (.lit (.int .i64 (v + 1)))).symm.trans (hat _)
      rw [hf] at e
      have := lit_inj e
      omega
  · obtain ⟨c, hc, hy, _⟩ := plainElem_int_inv Try.underlying3 hRv
    rw [hrun]
    cases hf : f k with
    | none =>
      have e1 := (h3 k (.lit (.int .i64 (c + 1)))).symm.trans (hat _)
      rw [hf, hy] at e1
      have := lit_inj e1
      omega
    | some v =>
      have e1 := (h3 k (.lit (.int .i64 0))).symm.trans (hat _)
      rw [hf, hy] at e1
      have e2 := lit_inj e1
      rw [hc, e2]
      rfl
/-- 'm[k] = v'. -/
theorem MpI.put {w : World} {b n : Nat} {f : Int → Option Int} (h : MpI w b n f) {t : TypeId} (ht : Try.prog.underlying t = some (.map 3 3)) (hn : n < maxLen) {k v : Int} (hk : (Lit.int .i64 k).wf = true) (hv : (Lit.int .i64 v).wf = true) :
    ∃ w', (Instr.mapUpdate t (.map (some b)) (.int .i64 k) (.int .i64 v)).run Try.prog w = .ok () w' ∧ MpI w' b (n + 1) (fun j => if j = k then some v else f j) ∧ w.grownBy w' (some b) := by
  obtain ⟨D, h1, h3⟩ := h
  obtain ⟨w', hr, ho, hg⟩ := h1.update (Maps.int_keyed Try.underlying3) ht hn (Maps.keyOf_int_mk Try.underlying3 hk) (plainElem_int Try.underlying3 hv)
  refine ⟨w', hr, ⟨_, ho, fun j z => ?_⟩, hg⟩
  have hD : Maps.IsMap D := by obtain ⟨es, clock, _, _, _, rfl⟩ := h1; exact ⟨_, rfl⟩
  dsimp only
  by_cases hj : j = k
  · subst hj
    rw [if_pos rfl, Maps.atKey_put_same (k := .int .i64 j) hD trivial]
  · rw [if_neg hj, Maps.atKey_put_other (by intro e; injection e with _ e; exact hj e), h3]
/-- A body in a row: its numbers, and its corners' row. -/
structure Bm where
  b : Bo
  g : Nat
  c : Nat
def Bm.cs (x : Bm) : List Value := (x.b.v x.g x.c).toList
def bmCs (l : List Bm) : List Value := l.flatMap Bm.cs
def BmY (w : World) (base : Nat) (x : Bm) : Prop := w.ownsRow base 105 2 (.slice (some ⟨x.g, 0, none⟩) 4 x.c) 4 ((crn x.b).map (Value.int .i64))
structure BmI (w : World) (base : Nat) (A : Option Addr) (m c : Nat) (l : List Bm) : Prop where
  own : w.ownsRow base 124 13 (.slice A m c) m (bmCs l)
  len : m = l.length
  ok : ∀ x ∈ l, BmY w base x
theorem BmI.keep {w w' : World} {base m c : Nat} {A : Option Addr} {l : List Bm} {F : List TypeId} (h : BmI w base A m c l) (hk : Kx 0 F w w') (h1 : (124 : TypeId) ∉ F) (h2 : (105 : TypeId) ∉ F) : BmI w' base A m c l :=
  ⟨hk.own h.own h1, h.len, fun x hx => hk.own (h.ok x hx) h2⟩
/-- Entities in a row. -/
def enCs (l : List (Int × Int)) : List Value := l.flatMap fun e => [.int .i64 e.1, .int .i64 e.2]
/-- A contact: both bodies, and eight numbers more. -/
structure Ct where
  a : Int
  b : Int
  id : Int
  px : Int
  py : Int
  nx : Int
  ny : Int
  dp : Int
  ps : Int
  sl : Int
def Ct.cs (x : Ct) : List Value := [.int .i64 x.a, .int .i64 x.b, .int .i64 x.id, .int .i64 x.px, .int .i64 x.py, .int .i64 x.nx, .int .i64 x.ny, .int .i64 x.dp, .int .i64 x.ps, .int .i64 x.sl]
def ctCs (l : List Ct) : List Value := l.flatMap Ct.cs
theorem ctCs_app (a b : List Ct) : ctCs (a ++ b) = ctCs a ++ ctCs b := by simp [ctCs]
theorem ctCs_get (l : List Ct) (k j : Nat) (f : Ct) (h : l[k]? = some f) (hj : j < 10) : (ctCs l)[k * 10 + j]? = (Ct.cs f)[j]? := by
  induction l generalizing k with
  | nil => simp at h
  | cons a l ih =>
    have e : ctCs (a :: l) = Ct.cs a ++ ctCs l := by simp [ctCs]
    rw [e]
    cases k with
    | zero =>
      have ea : a = f := by simpa using h
      subst ea
      rw [List.getElem?_append_left (by simp [Ct.cs]; omega)]
      congr 1; omega
    | succ k =>
      rw [List.getElem?_append_right (by simp [Ct.cs]; omega)]
      rw [show (k + 1) * 10 + j - (Ct.cs a).length = k * 10 + j by simp [Ct.cs]; omega]
      exact ih k (by simpa using h)
theorem Rd.ct {w : World} {B n : Nat} {A : Option Addr} {l : List Ct} {k : Nat} {f : Ct} (h : Rd w B 10 A n (ctCs l)) (hk : k < n) (hf : l[k]? = some f) :
    ∃ b o, A = some ⟨b, o, none⟩ ∧ b < B ∧ w.cell? ⟨b, o + k * 10, none⟩ = some (.int .i64 f.a) ∧ w.cell? ⟨b, o + k * 10 + 1, none⟩ = some (.int .i64 f.b) ∧ w.cell? ⟨b, o + k * 10 + 2, none⟩ = some (.int .i64 f.id) ∧ w.cell? ⟨b, o + k * 10 + 3, none⟩ = some (.int .i64 f.px) ∧ w.cell? ⟨b, o + k * 10 + 4, none⟩ = some (.int .i64 f.py) ∧ w.cell? ⟨b, o + k * 10 + 5, none⟩ = some (.int .i64 f.nx) ∧ w.cell? ⟨b, o + k * 10 + 6, none⟩ = some (.int .i64 f.ny) ∧ w.cell? ⟨b, o + k * 10 + 7, none⟩ = some (.int .i64 f.dp) ∧ w.cell? ⟨b, o + k * 10 + 8, none⟩ = some (.int .i64 f.ps) ∧ w.cell? ⟨b, o + k * 10 + 9, none⟩ = some (.int .i64 f.sl) := by
  obtain ⟨b, o, e, hb, hc⟩ := h.2 (by omega)
  exact ⟨b, o, e, hb, hc (k * 10) _ ((ctCs_get l k 0 f hf (by omega)).trans rfl), by rw [Nat.add_assoc]; exact hc (k * 10 + 1) _ ((ctCs_get l k 1 f hf (by omega)).trans rfl), by rw [Nat.add_assoc]; exact hc (k * 10 + 2) _ ((ctCs_get l k 2 f hf (by omega)).trans rfl), by rw [Nat.add_assoc]; exact hc (k * 10 + 3) _ ((ctCs_get l k 3 f hf (by omega)).trans rfl), by rw [Nat.add_assoc]; exact hc (k * 10 + 4) _ ((ctCs_get l k 4 f hf (by omega)).trans rfl), by rw [Nat.add_assoc]; exact hc (k * 10 + 5) _ ((ctCs_get l k 5 f hf (by omega)).trans rfl), by rw [Nat.add_assoc]; exact hc (k * 10 + 6) _ ((ctCs_get l k 6 f hf (by omega)).trans rfl), by rw [Nat.add_assoc]; exact hc (k * 10 + 7) _ ((ctCs_get l k 7 f hf (by omega)).trans rfl), by rw [Nat.add_assoc]; exact hc (k * 10 + 8) _ ((ctCs_get l k 8 f hf (by omega)).trans rfl), by rw [Nat.add_assoc]; exact hc (k * 10 + 9) _ ((ctCs_get l k 9 f hf (by omega)).trans rfl)⟩
/-- The bodies of items, with their entities. -/
def bodiesF (m0 m1 m2 : Int) (l : List It) : List (Bo × (Int × Int)) := l.filterMap fun x => (bodyF m0 m1 m2 x.cms).map fun b => (b, (x.e, x.g))
/-- What is kept: blocks whose type is not in F, and maps. -/
structure Kz (F : List TypeId) (w w' : World) : Prop where
  kx : Kx 0 F w w'
  mp : ∀ (b : Nat) (es : Array MapEntry) (c : Nat), w.heap[b]? = some (.map es c) → w'.heap[b]? = w.heap[b]?
section
variable {w w' w2 : World} {F : List TypeId}
theorem Kz.refl : Kz F w w := ⟨Kx.refl, fun _ _ _ _ => rfl⟩
theorem Kz.trans (h : Kz F w w') (k : Kz F w' w2) : Kz F w w2 := ⟨h.kx.trans k.kx, fun b es c h1 => (k.mp b es c ((h.mp b es c h1).trans h1)).trans (h.mp b es c h1)⟩
theorem Kz.mono {G : List TypeId} (h : Kz F w w') (hF : ∀ t, t ∈ F → t ∈ G) : Kz G w w' := ⟨h.kx.mono (Nat.le_refl _) hF, h.mp⟩
theorem lt_of_some {b : Nat} {o : Obj} (h : w.heap[b]? = some o) : b < w.heap.size := (Array.getElem?_eq_some_iff.1 h).1
theorem Kz.of_below (h : Below w.heap.size w w') : Kz F w w' := ⟨Kx.of_below h, fun b _ _ h1 => h.block b (lt_of_some h1)⟩
theorem Kz.below (h : Kz F w w') (k : Below w'.heap.size w' w2) : Kz F w w2 := h.trans (Kz.of_below k)
theorem Kz.alloc (h : Kz F w w') (o : Obj) : Kz F w (w'.alloc o) := h.below ((Below.refl _ _).alloc (Nat.le_refl _) o)
theorem Kz.drew (h : Kz F w w') : Kz F w w'.drew := ⟨h.kx.drew, h.mp⟩
theorem Kz.set (h : Kz F w w') {g : Nat} {t : TypeId} {cs : Array Value} (hg : Bk w' g t cs) (ht : t ∈ F) (i : Nat) (u : Value) : Kz F w (w'.setCell ⟨g, i, none⟩ u) :=
  h.trans ⟨(Kx.refl (B := 0)).set hg (Nat.zero_le _) ht i u, fun b es c h1 => Below.heap_setCell _ _ _ _ (by
    show b ≠ g
    intro e
    subst e
    rw [show w'.heap[b]? = _ from hg] at h1
    cases h1)⟩
theorem own_map {base size n b : Nat} {e : TypeId} {v : Value} {xs : List Value} (ho : w.ownsRow base e size v n xs) {es : Array MapEntry} {c : Nat} (h1 : w.heap[b]? = some (.map es c)) : some b ≠ v.ownBlock := by
  intro he
  rcases ho.2 with ⟨rfl, _⟩ | ⟨g, cap, cur, rfl, _, h3, _⟩
  · simp [Value.ownBlock] at he
  · have e : b = g := by simpa [Value.ownBlock] using he
    subst e
    rw [h3] at h1
    cases h1
theorem Kz.grown (h : Kz F w w') {base size n : Nat} {e : TypeId} {v : Value} {xs : List Value} (ho : w'.ownsRow base e size v n xs) (hg : w'.grownBy w2 v.ownBlock) (he : e ∈ F) : Kz F w w2 :=
  h.trans ⟨(Kx.refl (B := 0)).grown ho hg (Nat.zero_le _) he, fun b _ _ h1 => hg.block b (lt_of_some h1) (own_map ho h1)⟩
theorem MpI.keep {b n : Nat} {f : Int → Option Int} (h : MpI w b n f) (hz : Kz F w w') : MpI w' b n f := by
  obtain ⟨D, ⟨es, clock, h1, h2⟩, h3⟩ := h
  exact ⟨D, ⟨es, clock, (hz.mp b es clock h1).trans h1, h2⟩, h3⟩
theorem MpI.kx {b n : Nat} {f : Int → Option Int} (h : MpI w b n f) (hg : w.grownBy w' (some b)) : Kx 0 F w w' := by
  obtain ⟨D, ⟨es, clock, h1, _⟩, _⟩ := h
  refine ⟨hg.size, fun _ h _ => absurd h (by omega), fun g t cs h2 _ => h2.grown hg fun e => ?_⟩
  have e : g = b := by injection e
  subst e
  rw [show w.heap[g]? = _ from h2] at h1
  cases h1
end
/-- The last place of a slot. -/
def slotM : List (Int × Int) → Nat → (Int → Option Int) → Int → Option Int
  | [], _, f => f
  | e :: l, n, f => slotM l (n + 1) (fun j => if j = e.1 then some (n : Int) else f j)
theorem slotM_snoc (l : List (Int × Int)) (n : Nat) (f : Int → Option Int) (e : Int × Int) : slotM (l ++ [e]) n f = fun j => if j = e.1 then some ((n + l.length : Nat) : Int) else slotM l n f j := by
  induction l generalizing n f with
  | nil => rfl
  | cons a l ih => rw [List.cons_append, slotM, ih, List.length_cons, show n + 1 + l.length = n + (l.length + 1) by omega]; rfl
/-- A contact with its bodies' places instead of their slots. -/
def ctF1 (f : Int → Option Int) (c : Ct) : List Ct :=
  match f c.a, f c.b with
  | some a, some b => [{ c with a := a, b := b }]
  | _, _ => []
/-- The scene that is being made: bodies and their entities. -/
structure ScI (w : World) (base sA : Nat) (A : Option Addr) (n c : Nat) (E : Option Addr) (ec : Nat) (gx gy st : Int) (q : List (Bo × (Int × Int))) : Prop where
  s : Bk w sA 115 #[.slice A n c, .slice none 0 0, .slice none 0 0, .int .i64 gx, .int .i64 gy, .int .i64 st]
  bm : ∃ l, BmI w base A n c l ∧ l.map Bm.b = q.map Prod.fst
  en : w.ownsRow base 128 2 (.slice E n ec) n (enCs (q.map Prod.snd))
  len : n = q.length
  lo : base ≤ sA
theorem ScI.keep {w w' : World} {base sA n c ec : Nat} {A E : Option Addr} {gx gy st : Int} {q : List (Bo × (Int × Int))} {F : List TypeId} (h : ScI w base sA A n c E ec gx gy st q) (hk : Kx 0 F w w') (h1 : (124 : TypeId) ∉ F) (h2 : (105 : TypeId) ∉ F) (h3 : (115 : TypeId) ∉ F) (h4 : (128 : TypeId) ∉ F) : ScI w' base sA A n c E ec gx gy st q := by
  obtain ⟨l, hl, hq⟩ := h.bm
  exact ⟨hk.bk h.s h3, ⟨l, hl.keep hk h1 h2, hq⟩, hk.own h.en h4, h.len, h.lo⟩
theorem bmCs_app (a b : List Bm) : bmCs (a ++ b) = bmCs a ++ bmCs b := by simp [bmCs]
theorem enCs_app (a b : List (Int × Int)) : enCs (a ++ b) = enCs a ++ enCs b := by simp [enCs]
end Go.Proofs.Ytnidcmhfbkdioaa
