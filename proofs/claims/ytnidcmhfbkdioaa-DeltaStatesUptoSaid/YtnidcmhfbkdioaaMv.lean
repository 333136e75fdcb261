/-
  Plain law: merging worlds as data. No program. Conditions: none.
-/
import Derived.Test.YtnidcmhfbkdioaaRows
namespace Go.Proofs.Ytnidcmhfbkdioaa

abbrev Cv := Int × List Int
abbrev Iv := (Int × Int) × List Cv
abbrev Cl := Int × Int × Int × Int
def findI (l : List Iv) (n : Int) : Option Iv := l.find? fun x => decide (x.1.1 = n)
def findC (l : List Cv) (k : Int) : Option (List Int) := (l.find? fun c => decide (c.1 = k)).map (·.2)
def valF (o x y : Int) : Int := if x = y ∨ y = o then x else if x = o then y else x
def valB (o x y : Int) : Bool := decide (x ≠ y ∧ y ≠ o ∧ x ≠ o)
def valsF (o x y : List Int) : List Int := (List.range x.length).map fun f : Nat => valF (o.getD f 0) (x.getD f 0) (y.getD f 0)
def valsC (s k : Int) (o x y : List Int) (m : Nat) : List Cl := (((List.range m).filter fun f : Nat => valB (o.getD f 0) (x.getD f 0) (y.getD f 0))).map fun f : Nat => (2, s, k, (f : Int))
def pick {α : Type} [DecidableEq α] (o x y : α) : α × Bool := if x = y then (x, false) else if x = o then (y, false) else if y = o then (x, false) else (x, true)
def compF : Option (List Int) → Option (List Int) → Option (List Int) → Option (List Int)
  | some o, some x, some y => some (valsF o x y)
  | o, x, y => (pick o x y).1
def compC (s k : Int) : Option (List Int) → Option (List Int) → Option (List Int) → List Cl
  | some o, some x, some y => valsC s k o x y x.length
  | o, x, y => if (pick o x y).2 then [(1, s, k, 0)] else []
def optC (k : Nat) : Option (List Int) → List Cv
  | some v => [((k : Int), v)]
  | none => []
def compsF (K : Nat) (o x y : List Cv) : List Cv := (List.range K).flatMap fun k : Nat => optC k (compF (findC o k) (findC x k) (findC y k))
def compsC (s : Int) (K : Nat) (o x y : List Cv) : List Cl := (List.range K).flatMap fun k : Nat => compC s k (findC o k) (findC x k) (findC y k)
def slotF (K : Nat) : Option Iv → Option Iv → Option Iv → Option Iv
  | some o, some x, some y => if o.1 = x.1 ∧ o.1 = y.1 then some (x.1, compsF K o.2 x.2 y.2) else (pick (some o) (some x) (some y)).1
  | o, x, y => (pick o x y).1
def slotC (n : Int) (K : Nat) : Option Iv → Option Iv → Option Iv → List Cl
  | some o, some x, some y => if o.1 = x.1 ∧ o.1 = y.1 then compsC n K o.2 x.2 y.2 else if (pick (some o) (some x) (some y)).2 then [(0, n, 0, 0)] else []
  | o, x, y => if (pick o x y).2 then [(0, n, 0, 0)] else []
def genF (o x y : List Int) (n : Nat) : Option Iv → Int
  | some it => it.1.2
  | none => max (max (max 0 (x.getD n 0)) (y.getD n 0)) (o.getD n 0)
structure Wv (κ : Type) where
  ks : List κ
  gens : List Int
  its : List Iv
def slotAt (K : Nat) (o x y : List Iv) (n : Nat) : Option Iv := slotF K (findI o n) (findI x n) (findI y n)
def itsF (K : Nat) (o x y : List Iv) (N : Nat) : List Iv := (List.range N).flatMap fun n : Nat => (slotAt K o x y n).toList
def gensF {κ : Type} (o x y : Wv κ) (N : Nat) : List Int := (List.range N).map fun n : Nat => genF o.gens x.gens y.gens n (slotAt o.ks.length o.its x.its y.its n)
def clsF (K : Nat) (o x y : List Iv) (N : Nat) : List Cl := (List.range N).flatMap fun n : Nat => slotC n K (findI o n) (findI x n) (findI y n)
def slotsN {κ : Type} (o x y : Wv κ) : Nat := max x.gens.length (max y.gens.length o.gens.length)
/-- The world and the clashes of three valid worlds of the same kinds. -/
def mergeF {κ : Type} (o x y : Wv κ) : Wv κ := ⟨o.ks, gensF o x y (slotsN o x y), itsF o.ks.length o.its x.its y.its (slotsN o x y)⟩
def mergeC {κ : Type} (o x y : Wv κ) : List Cl := clsF o.ks.length o.its x.its y.its (slotsN o x y)

/-! ### Valid worlds -/
structure VCs {κ : Type} (hold : κ → List Int → Bool) (ks : List κ) (l : List Cv) : Prop where
  sorted : l.Pairwise fun a b => a.1 < b.1
  ok : ∀ c ∈ l, ∃ (k : Nat) (d : κ), c.1 = k ∧ ks[k]? = some d ∧ hold d c.2 = true
structure VW {κ : Type} (hold : κ → List Int → Bool) (w : Wv κ) : Prop where
  many : w.gens.length ≤ 256
  gens : ∀ g ∈ w.gens, 0 ≤ g ∧ g ≤ 1073741824
  sorted : w.its.Pairwise fun a b => a.1.1 < b.1.1
  ok : ∀ it ∈ w.its, (∃ n : Nat, it.1.1 = n ∧ w.gens[n]? = some it.1.2) ∧ it.1.2 ≠ 1073741824 ∧ VCs hold w.ks it.2

theorem flat_congr {α β : Type} {l : List α} {f g : α → List β} (h : ∀ a ∈ l, f a = g a) : l.flatMap f = l.flatMap g := by
  induction l with
  | nil => rfl
  | cons a l ih => simp only [List.flatMap_cons]; rw [h a (by simp), ih fun b hb => h b (by simp [hb])]
theorem pick_xx {α : Type} [DecidableEq α] (o x : α) : pick o x x = (x, false) := by simp [pick]
theorem pick_oy {α : Type} [DecidableEq α] (o y : α) : pick o o y = (y, false) := by
  unfold pick
  by_cases h : o = y
  · rw [if_pos h, h]
  · rw [if_neg h, if_pos rfl]
theorem pick_xo {α : Type} [DecidableEq α] (o x : α) : pick o x o = (x, false) := by unfold pick; split <;> (try split) <;> simp_all
theorem pick_turn {α : Type} [DecidableEq α] (o x y : α) : (pick o x y).2 = (pick o y x).2 := by
  unfold pick
  by_cases h1 : x = y
  · simp [h1]
  · rw [if_neg h1, if_neg (Ne.symm h1)]
    by_cases h2 : x = o
    · rw [if_pos h2]
      by_cases h3 : y = o
      · rw [if_pos h3]
      · rw [if_neg h3, if_pos h2]
    · rw [if_neg h2]
      by_cases h3 : y = o
      · rw [if_pos h3, if_pos h3]
      · rw [if_neg h3, if_neg h3, if_neg h2]
theorem pick_turn1 {α : Type} [DecidableEq α] (o x y : α) (h : (pick o x y).2 = false) : (pick o x y).1 = (pick o y x).1 := by
  unfold pick at h ⊢
  by_cases h1 : x = y
  · simp [h1]
  · rw [if_neg h1] at h ⊢
    rw [if_neg (Ne.symm h1)]
    by_cases h2 : x = o
    · rw [if_pos h2] at h ⊢
      by_cases h3 : y = o
      · exact absurd (h2.trans h3.symm) h1
      · rw [if_neg h3, if_pos h2]
    · rw [if_neg h2] at h ⊢
      by_cases h3 : y = o
      · rw [if_pos h3] at h ⊢; rw [if_pos h3]
      · rw [if_neg h3] at h; cases h
theorem pick_or {α : Type} [DecidableEq α] (o x y : α) : (pick o x y).1 = x ∨ (pick o x y).1 = y := by
  unfold pick
  split
  · exact .inl rfl
  · split
    · exact .inr rfl
    · split <;> exact .inl rfl

theorem map_getD_range (x : List Int) : (List.range x.length).map (fun f => x.getD f 0) = x := by
  apply List.ext_getElem?
  intro i
  rw [List.getElem?_map]
  by_cases h : i < x.length
  · rw [List.getElem?_range h, List.getElem?_eq_getElem h]; simp [List.getD, List.getElem?_eq_getElem h]
  · rw [List.getElem?_eq_none (by simpa using h), List.getElem?_eq_none (by omega)]; rfl
theorem valsF_xo {o x : List Int} : valsF o x o = x := by
  unfold valsF
  rw [show (fun f => valF (o.getD f 0) (x.getD f 0) (o.getD f 0)) = fun f => x.getD f 0 from funext fun f => by simp [valF]]
  exact map_getD_range x
theorem valsF_xx {o x : List Int} : valsF o x x = x := by
  unfold valsF
  rw [show (fun f => valF (o.getD f 0) (x.getD f 0) (x.getD f 0)) = fun f => x.getD f 0 from funext fun f => by simp [valF]]
  exact map_getD_range x
theorem valF_oy (o y : Int) : valF o o y = y := by
  unfold valF
  by_cases h : o = y ∨ y = o
  · rw [if_pos h]; omega
  · rw [if_neg h, if_pos rfl]
theorem valsF_oy {o y : List Int} (h : o.length = y.length) : valsF o o y = y := by
  unfold valsF
  rw [show (fun f => valF (o.getD f 0) (o.getD f 0) (y.getD f 0)) = fun f => y.getD f 0 from funext fun f => valF_oy _ _, h]
  exact map_getD_range y
theorem valsC_nil {s k : Int} {o x y : List Int} {m : Nat} (h : ∀ f, valB (o.getD f 0) (x.getD f 0) (y.getD f 0) = false) : valsC s k o x y m = [] := by
  unfold valsC
  rw [List.filter_eq_nil_iff.2 (fun f _ => by rw [h f]; simp)]
  rfl

/-! ### Looking a kind up -/
theorem findC_cons (c : Cv) (l : List Cv) (k : Int) : findC (c :: l) k = if c.1 = k then some c.2 else findC l k := by
  unfold findC
  rw [List.find?_cons]
  by_cases h : c.1 = k
  · simp [h]
  · simp [h]
theorem findC_none {l : List Cv} {k : Int} (h : ∀ c ∈ l, c.1 ≠ k) : findC l k = none := by
  unfold findC
  rw [List.find?_eq_none.2 (fun c hc => by simpa using h c hc)]
  rfl
theorem findC_some {l : List Cv} {k : Int} {v : List Int} (h : findC l k = some v) : (k, v) ∈ l := by
  unfold findC at h
  cases hf : l.find? (fun c => decide (c.1 = k)) with
  | none => rw [hf] at h; cases h
  | some c =>
    rw [hf] at h
    have e : c.2 = v := by simpa using h
    have e1 : c.1 = k := by simpa using List.find?_some hf
    have := List.mem_of_find?_eq_some hf
    rw [← e1, ← e]; exact this
theorem findI_cons (c : Iv) (l : List Iv) (k : Int) : findI (c :: l) k = if c.1.1 = k then some c else findI l k := by
  unfold findI
  rw [List.find?_cons]
  by_cases h : c.1.1 = k
  · simp [h]
  · simp [h]
theorem findI_none {l : List Iv} {k : Int} (h : ∀ c ∈ l, c.1.1 ≠ k) : findI l k = none := by
  unfold findI
  exact List.find?_eq_none.2 (fun c hc => by simpa using h c hc)
theorem findI_some {l : List Iv} {k : Int} {v : Iv} (h : findI l k = some v) : v ∈ l ∧ v.1.1 = k := by
  unfold findI at h
  exact ⟨List.mem_of_find?_eq_some h, by simpa using List.find?_some h⟩

/-- A list that is sorted by numbers below K, rebuilt number by number. -/
theorem rebuild {α : Type} (key : α → Int) (K : Nat) (l : List α) (hs : l.Pairwise fun a b => key a < key b) (hk : ∀ c ∈ l, ∃ k : Nat, key c = k ∧ k < K) :
    ((List.range K).flatMap fun k : Nat => (l.find? fun c => decide (key c = (k : Int))).toList) = l := by
  suffices h : ∀ (m : Nat) (l : List α), (l.Pairwise fun a b => key a < key b) → (∀ c ∈ l, ∃ k : Nat, key c = (k : Int) ∧ k < m) → ((List.range m).flatMap fun k : Nat => (l.find? fun c => decide (key c = (k : Int))).toList) = l from h K l hs hk
  intro m
  induction m with
  | zero =>
    intro l _ hk
    cases l with
    | nil => rfl
    | cons a l => obtain ⟨k, _, h⟩ := hk a (List.mem_cons_self ..); omega
  | succ m ih =>
    intro l hs hk
    rw [List.range_succ, List.flatMap_append]
    simp only [List.flatMap_cons, List.flatMap_nil, List.append_nil]
    rcases List.eq_nil_or_concat l with rfl | ⟨l', a, rfl⟩
    · simp
    · rw [List.concat_eq_append] at hs hk ⊢
      obtain ⟨k, hka, hkm⟩ := hk a (by simp)
      rw [List.pairwise_append] at hs
      obtain ⟨hs1, _, hs3⟩ := hs
      have hlt : ∀ c ∈ l', key c < (k : Int) := fun c hc => by rw [← hka]; exact hs3 c hc a (by simp)
      by_cases hkm' : k = m
      · subst hkm'
        have h1 : ∀ c ∈ l', ∃ j : Nat, key c = (j : Int) ∧ j < k := fun c hc => by
          obtain ⟨j, hj, _⟩ := hk c (by simp [hc])
          exact ⟨j, hj, by have := hlt c hc; omega⟩
        have e1 := ih l' hs1 h1
        have e2 : ((List.range k).flatMap fun j : Nat => ((l' ++ [a]).find? fun c => decide (key c = (j : Int))).toList) = ((List.range k).flatMap fun j : Nat => (l'.find? fun c => decide (key c = (j : Int))).toList) := by
          apply flat_congr
          intro j hj
          have hj' : j < k := by simpa using hj
          rw [List.find?_append]
          have : ([a].find? fun c => decide (key c = (j : Int))) = none := by
            simp [hka]; omega
          rw [this]
          cases (l'.find? fun c => decide (key c = (j : Int))) <;> rfl
        have e3 : ((l' ++ [a]).find? fun c => decide (key c = (k : Int))) = some a := by
          rw [List.find?_append]
          have : (l'.find? fun c => decide (key c = (k : Int))) = none := List.find?_eq_none.2 fun c hc => by
            have := hlt c hc
            simp; omega
          rw [this]
          simp [hka]
        rw [e2, e1, e3]; rfl
      · have h1 : ∀ c ∈ l' ++ [a], ∃ j : Nat, key c = (j : Int) ∧ j < m := fun c hc => by
          obtain ⟨j, hj, _⟩ := hk c hc
          rcases List.mem_append.1 hc with hc | hc
          · exact ⟨j, hj, by have := hlt c hc; omega⟩
          · have : c = a := by simpa using hc
            subst this
            exact ⟨j, hj, by omega⟩
        have e1 := ih (l' ++ [a]) (by rw [List.pairwise_append]; exact ⟨hs1, by simp, hs3⟩) h1
        have e3 : ((l' ++ [a]).find? fun c => decide (key c = (m : Int))) = none := List.find?_eq_none.2 fun c hc => by
          obtain ⟨j, hj, hjm⟩ := h1 c hc
          simp; omega
        rw [e1, e3]; simp

section
variable {κ : Type} {hold : κ → List Int → Bool} {ks : List κ}
theorem find_toList (l : List Cv) (k : Nat) : (l.find? fun c => decide (c.1 = (k : Int))).toList = optC k (findC l k) := by
  unfold findC
  cases h : l.find? (fun c => decide (c.1 = (k : Int))) with
  | none => rfl
  | some c =>
    have e : c.1 = k := by simpa using List.find?_some h
    show [c] = [((k : Int), c.2)]
    rw [← e]
theorem VCs.key {l : List Cv} (h : VCs hold ks l) : ∀ c ∈ l, ∃ k : Nat, c.1 = k ∧ k < ks.length := fun c hc => by
  obtain ⟨k, d, h1, h2, _⟩ := h.ok c hc
  exact ⟨k, h1, (List.getElem?_eq_some_iff.1 h2).1⟩
theorem VCs.again {l : List Cv} (h : VCs hold ks l) : ((List.range ks.length).flatMap fun k : Nat => optC k (findC l k)) = l := by
  have := rebuild (fun c : Cv => c.1) ks.length l h.sorted h.key
  rw [← flat_congr (fun k _ => find_toList l k)]
  exact this
theorem VCs.at_ {l : List Cv} (h : VCs hold ks l) {k : Nat} {v : List Int} (hf : findC l k = some v) : ∃ d, ks[k]? = some d ∧ hold d v = true := by
  obtain ⟨j, d, h1, h2, h3⟩ := h.ok _ (findC_some hf)
  have e : k = j := Int.ofNat_inj.1 h1
  subst e
  exact ⟨d, h2, h3⟩
structure Len (hold : κ → List Int → Bool) : Prop where
  len : ∀ d x y, hold d x = true → hold d y = true → x.length = y.length
theorem VCs.len {hl : Len hold} {o y : List Cv} (ho : VCs hold ks o) (hy : VCs hold ks y) {k : Nat} {u v : List Int} (h1 : findC o k = some u) (h2 : findC y k = some v) : u.length = v.length := by
  obtain ⟨d, e1, e2⟩ := ho.at_ h1
  obtain ⟨d', e3, e4⟩ := hy.at_ h2
  rw [e1] at e3
  injection e3 with e3
  subst e3
  exact hl.len _ _ _ e2 e4
theorem compF_xo (o x : Option (List Int)) : compF o x o = x := by
  cases o <;> cases x <;> simp [compF, valsF_xo, pick_xo]
theorem compF_xx (o x : Option (List Int)) : compF o x x = x := by
  cases o <;> cases x <;> simp [compF, valsF_xx, pick_xx]
theorem compF_oy (o y : Option (List Int)) (h : ∀ u v, o = some u → y = some v → u.length = v.length) : compF o o y = y := by
  cases o with
  | none => cases y <;> simp [compF, pick_oy]
  | some u =>
    cases y with
    | none => simp [compF, pick_oy]
    | some v => simp [compF, valsF_oy (h u v rfl rfl)]
theorem compsF_xo {o x : List Cv} (h : VCs hold ks x) : compsF ks.length o x o = x := by
  unfold compsF
  rw [flat_congr (fun k _ => by rw [compF_xo])]
  exact h.again
theorem compsF_xx {o x : List Cv} (h : VCs hold ks x) : compsF ks.length o x x = x := by
  unfold compsF
  rw [flat_congr (fun k _ => by rw [compF_xx])]
  exact h.again
theorem compsF_oy (hl : Len hold) {o y : List Cv} (ho : VCs hold ks o) (h : VCs hold ks y) : compsF ks.length o o y = y := by
  unfold compsF
  rw [flat_congr (fun k _ => by rw [compF_oy _ _ fun u v h1 h2 => VCs.len (hl := hl) ho h h1 h2])]
  exact h.again

/-! ### One version changed -/
theorem slotF_xo {o x : Option Iv} (h : ∀ it, x = some it → VCs hold ks it.2) : slotF ks.length o x o = x := by
  cases o with
  | none => cases x <;> simp [slotF, pick_xo]
  | some o =>
    cases x with
    | none => simp [slotF, pick_xo]
    | some x =>
      show (if o.1 = x.1 ∧ o.1 = o.1 then some (x.1, compsF ks.length o.2 x.2 o.2) else (pick (some o) (some x) (some o)).1) = some x
      by_cases e : o.1 = x.1 ∧ o.1 = o.1
      · rw [if_pos e, compsF_xo (h x rfl)]
      · rw [if_neg e, pick_xo]
theorem slotF_xx {o x : Option Iv} (h : ∀ it, x = some it → VCs hold ks it.2) : slotF ks.length o x x = x := by
  cases o with
  | none => cases x <;> simp [slotF, pick_xx]
  | some o =>
    cases x with
    | none => simp [slotF, pick_xx]
    | some x =>
      show (if o.1 = x.1 ∧ o.1 = x.1 then some (x.1, compsF ks.length o.2 x.2 x.2) else (pick (some o) (some x) (some x)).1) = some x
      by_cases e : o.1 = x.1 ∧ o.1 = x.1
      · rw [if_pos e, compsF_xx (h x rfl)]
      · rw [if_neg e, pick_xx]
theorem slotF_oy (hl : Len hold) {o y : Option Iv} (ho : ∀ it, o = some it → VCs hold ks it.2) (h : ∀ it, y = some it → VCs hold ks it.2) : slotF ks.length o o y = y := by
  cases o with
  | none => cases y <;> simp [slotF, pick_oy]
  | some o =>
    cases y with
    | none => simp [slotF, pick_oy]
    | some y =>
      show (if o.1 = o.1 ∧ o.1 = y.1 then some (o.1, compsF ks.length o.2 o.2 y.2) else (pick (some o) (some o) (some y)).1) = some y
      by_cases e : o.1 = o.1 ∧ o.1 = y.1
      · rw [if_pos e, compsF_oy hl (ho o rfl) (h y rfl), e.2]
      · rw [if_neg e, pick_oy]

/-! ### No clash there -/
theorem valB_xo (o x : Int) : valB o x o = false := by simp [valB]
theorem valB_xx (o x : Int) : valB o x x = false := by simp [valB]
theorem valB_oy (o y : Int) : valB o o y = false := by simp [valB]
theorem compC_xo (s k : Int) (o x : Option (List Int)) : compC s k o x o = [] := by
  cases o <;> cases x <;> simp [compC, pick_xo, valsC_nil (fun f => valB_xo _ _)]
theorem compC_xx (s k : Int) (o x : Option (List Int)) : compC s k o x x = [] := by
  cases o <;> cases x <;> simp [compC, pick_xx, valsC_nil (fun f => valB_xx _ _)]
theorem compC_oy (s k : Int) (o y : Option (List Int)) : compC s k o o y = [] := by
  cases o <;> cases y <;> simp [compC, pick_oy, valsC_nil (fun f => valB_oy _ _)]
theorem flat_nil {α β : Type} {f : α → List β} {l : List α} (h : ∀ x ∈ l, f x = []) : l.flatMap f = [] := by
  rw [List.flatMap_eq_nil_iff]; exact h
theorem slotC_xo (n : Int) (K : Nat) (o x : Option Iv) : slotC n K o x o = [] := by
  cases o <;> cases x <;> simp [slotC, pick_xo]
  intro _
  exact flat_nil fun k _ => compC_xo _ _ _ _
theorem slotC_xx (n : Int) (K : Nat) (o x : Option Iv) : slotC n K o x x = [] := by
  cases o <;> cases x <;> simp [slotC, pick_xx]
  intro _
  exact flat_nil fun k _ => compC_xx _ _ _ _
theorem slotC_oy (n : Int) (K : Nat) (o y : Option Iv) : slotC n K o o y = [] := by
  cases o <;> cases y <;> simp [slotC, pick_oy]
  intro _
  exact flat_nil fun k _ => compC_oy _ _ _ _
theorem mergeC_xo (o x : Wv κ) : mergeC o x o = [] := flat_nil fun _ _ => slotC_xo _ _ _ _
theorem mergeC_xx (o x : Wv κ) : mergeC o x x = [] := flat_nil fun _ _ => slotC_xx _ _ _ _
theorem mergeC_oy (o y : Wv κ) : mergeC o o y = [] := flat_nil fun _ _ => slotC_oy _ _ _ _

theorem VW.find {w : Wv κ} (h : VW hold w) {n : Nat} {it : Iv} (hf : findI w.its n = some it) : it.1.1 = n ∧ w.gens[n]? = some it.1.2 ∧ it.1.2 ≠ 1073741824 ∧ VCs hold w.ks it.2 := by
  obtain ⟨hm, hn⟩ := findI_some hf
  obtain ⟨⟨m, h1, h2⟩, h3, h4⟩ := h.ok it hm
  have e : m = n := by omega
  subst e
  exact ⟨hn, h2, h3, h4⟩
theorem VW.key {w : Wv κ} (h : VW hold w) : ∀ c ∈ w.its, ∃ k : Nat, c.1.1 = k ∧ k < w.gens.length := fun c hc => by
  obtain ⟨⟨m, h1, h2⟩, _⟩ := h.ok c hc
  exact ⟨m, h1, (List.getElem?_eq_some_iff.1 h2).1⟩
/-- The result is z if each slot's is. -/
theorem merge_is {o x y z : Wv κ} (hz : VW hold z) (hk : z.ks = o.ks) (hN : slotsN o x y = z.gens.length)
    (hs : ∀ n, slotAt o.ks.length o.its x.its y.its n = findI z.its n)
    (hg : ∀ n, n < z.gens.length → findI z.its n = none → max (max (max 0 (x.gens.getD n 0)) (y.gens.getD n 0)) (o.gens.getD n 0) = z.gens.getD n 0) : mergeF o x y = z := by
  obtain ⟨zk, zg, zi⟩ := z
  unfold mergeF
  dsimp only at hk hN hs hg ⊢
  subst hk
  congr 1
  · rw [hN]
    unfold gensF
    apply List.ext_getElem?
    intro n
    rw [List.getElem?_map]
    by_cases hn : n < zg.length
    · rw [List.getElem?_range hn, List.getElem?_eq_getElem hn]
      show some _ = _
      congr 1
      show genF o.gens x.gens y.gens n (slotAt o.ks.length o.its x.its y.its n) = _
      rw [hs n]
      cases hf : findI zi n with
      | none =>
        show max (max (max 0 (x.gens.getD n 0)) (y.gens.getD n 0)) (o.gens.getD n 0) = _
        rw [hg n hn hf]
        simp [List.getD, List.getElem?_eq_getElem hn]
      | some it =>
        have h2 := (hz.find hf).2.1
        dsimp only at h2
        rw [List.getElem?_eq_getElem hn] at h2
        injection h2 with h2
        exact h2.symm
    · rw [List.getElem?_eq_none (by simpa using hn), List.getElem?_eq_none (by omega)]; rfl
  · rw [hN]
    unfold itsF
    rw [flat_congr (fun n _ => by rw [hs n])]
    exact rebuild (fun c : Iv => c.1.1) zg.length zi hz.sorted hz.key
theorem VW.fv {w : Wv κ} (h : VW hold w) (n : Nat) : ∀ it, findI w.its n = some it → VCs hold w.ks it.2 := fun _it hf => (h.find hf).2.2.2
theorem getD_pos {l : List Int} (h : ∀ g ∈ l, 0 ≤ g) (n : Nat) : 0 ≤ l.getD n 0 := by
  by_cases hn : n < l.length
  · have e : l.getD n 0 = l[n] := by simp [List.getD, List.getElem?_eq_getElem hn]
    rw [e]; exact h _ (List.getElem_mem hn)
  · simp [List.getD, List.getElem?_eq_none (show l.length ≤ n by omega)]
/-- The changed version is no older than the base. -/
structure Newer (w a : Wv κ) : Prop where
  ks : a.ks = w.ks
  len : w.gens.length ≤ a.gens.length
  gens : ∀ n : Nat, findI a.its n = none → w.gens.getD n 0 ≤ a.gens.getD n 0
theorem merge_xo {w a : Wv κ} (ha : VW hold a) (h : Newer w a) : mergeF w a w = a :=
  merge_is ha h.ks (by unfold slotsN; have := h.len; omega) (fun n => by
    unfold slotAt
    rw [← h.ks]
    exact slotF_xo (hold := hold) (ha.fv n)) (fun n _ hf => by have h1 := h.gens n hf; have h2 := getD_pos (fun g hg => (ha.gens g hg).1) n; omega)
theorem merge_xx {w a : Wv κ} (ha : VW hold a) (h : Newer w a) : mergeF w a a = a :=
  merge_is ha h.ks (by unfold slotsN; have := h.len; omega) (fun n => by
    unfold slotAt
    rw [← h.ks]
    exact slotF_xx (hold := hold) (ha.fv n)) (fun n _ hf => by have h1 := h.gens n hf; have h2 := getD_pos (fun g hg => (ha.gens g hg).1) n; omega)
theorem merge_oy (hl : Len hold) {w a : Wv κ} (hw : VW hold w) (ha : VW hold a) (h : Newer w a) : mergeF w w a = a :=
  merge_is ha h.ks (by unfold slotsN; have := h.len; omega) (fun n => by
    unfold slotAt
    have h1 := hw.fv n
    rw [← h.ks] at h1 ⊢
    exact slotF_oy (hold := hold) hl h1 (ha.fv n)) (fun n _ hf => by have h1 := h.gens n hf; have h2 := getD_pos (fun g hg => (ha.gens g hg).1) n; omega)

/-! ### Both versions turned -/
theorem valB_turn (o x y : Int) : valB o x y = valB o y x := by
  unfold valB
  rw [decide_eq_decide]
  exact ⟨fun ⟨a, b, c⟩ => ⟨Ne.symm a, c, b⟩, fun ⟨a, b, c⟩ => ⟨Ne.symm a, c, b⟩⟩
theorem valF_turn {o x y : Int} (h : valB o x y = false) : valF o x y = valF o y x := by
  unfold valB at h
  have h' : ¬ (x ≠ y ∧ y ≠ o ∧ x ≠ o) := by simpa using h
  unfold valF
  by_cases h1 : x = y
  · simp [h1]
  · by_cases h2 : y = o
    · rw [if_pos (.inr h2), if_neg (fun h => by rcases h with h | h <;> omega), if_pos h2]
    · have h3 : x = o := by
        apply Classical.byContradiction
        intro h3
        exact h' ⟨h1, h2, h3⟩
      rw [if_neg (fun h => by rcases h with h | h <;> omega), if_pos h3, if_pos (.inr h3)]
theorem valsC_turn (s k : Int) (o x y : List Int) (m : Nat) : valsC s k o x y m = valsC s k o y x m := by
  unfold valsC
  congr 1
  apply List.filter_congr
  intro f _
  exact valB_turn _ _ _
theorem valsF_turn {s k : Int} {o x y : List Int} (hl : x.length = y.length) (h : valsC s k o x y x.length = []) : valsF o x y = valsF o y x := by
  unfold valsC at h
  rw [List.map_eq_nil_iff, List.filter_eq_nil_iff] at h
  unfold valsF
  rw [← hl]
  apply List.map_congr_left
  intro f hf
  exact valF_turn (by simpa using h f hf)
theorem compC_turn (s k : Int) (o x y : Option (List Int)) (h : ∀ u v, x = some u → y = some v → u.length = v.length) : compC s k o x y = compC s k o y x := by
  cases o with
  | none => cases x <;> cases y <;> simp only [compC] <;> rw [pick_turn]
  | some o =>
    cases x with
    | none => cases y <;> simp only [compC] <;> rw [pick_turn]
    | some x =>
      cases y with
      | none => simp only [compC]; rw [pick_turn]
      | some y => simp only [compC]; rw [← h x y rfl rfl, valsC_turn]
theorem compF_turn {s k : Int} {o x y : Option (List Int)} (h : ∀ u v, x = some u → y = some v → u.length = v.length) (hc : compC s k o x y = []) : compF o x y = compF o y x := by
  have key : ∀ {a b c : Option (List Int)}, (if (pick a b c).2 then [((1, s, k, 0) : Cl)] else []) = [] → (pick a b c).1 = (pick a c b).1 := fun {a b c} e => by
    apply pick_turn1
    cases hp : (pick a b c).2 with
    | false => rfl
    | true => rw [hp] at e; cases e
  cases o with
  | none => cases x <;> cases y <;> exact key hc
  | some o =>
    cases x with
    | none => cases y <;> exact key hc
    | some x =>
      cases y with
      | none => exact key hc
      | some y =>
        show some (valsF o x y) = some (valsF o y x)
        rw [valsF_turn (h x y rfl rfl) hc]
theorem compsC_turn (hl : Len hold) (s : Int) {o x y : List Cv} (hx : VCs hold ks x) (hy : VCs hold ks y) (K : Nat) : compsC s K o x y = compsC s K o y x :=
  flat_congr fun _k _ => compC_turn _ _ _ _ _ fun _ _ h1 h2 => VCs.len (hl := hl) hx hy h1 h2
theorem compsF_turn (hl : Len hold) {s : Int} {o x y : List Cv} (hx : VCs hold ks x) (hy : VCs hold ks y) {K : Nat} (h : compsC s K o x y = []) : compsF K o x y = compsF K o y x := by
  unfold compsC at h
  rw [List.flatMap_eq_nil_iff] at h
  exact flat_congr fun k hk => by rw [compF_turn (fun _ _ h1 h2 => VCs.len (hl := hl) hx hy h1 h2) (h k hk)]
theorem slotC_turn (hl : Len hold) (n : Int) (K : Nat) {o x y : Option Iv} (hx : ∀ it, x = some it → VCs hold ks it.2) (hy : ∀ it, y = some it → VCs hold ks it.2) : slotC n K o x y = slotC n K o y x := by
  cases o with
  | none => cases x <;> cases y <;> simp only [slotC] <;> rw [pick_turn]
  | some o =>
    cases x with
    | none => cases y <;> simp only [slotC] <;> rw [pick_turn]
    | some x =>
      cases y with
      | none => simp only [slotC]; rw [pick_turn]
      | some y =>
        simp only [slotC]
        by_cases e : o.1 = x.1 ∧ o.1 = y.1
        · rw [if_pos e, if_pos ⟨e.2, e.1⟩, compsC_turn hl n (hx x rfl) (hy y rfl)]
        · rw [if_neg e, if_neg (show ¬ (o.1 = y.1 ∧ o.1 = x.1) from fun h => e ⟨h.2, h.1⟩), pick_turn]
theorem slotF_turn (hl : Len hold) {n : Int} {K : Nat} {o x y : Option Iv} (hx : ∀ it, x = some it → VCs hold ks it.2) (hy : ∀ it, y = some it → VCs hold ks it.2) (hc : slotC n K o x y = []) : slotF K o x y = slotF K o y x := by
  have key : ∀ {a b c : Option Iv}, (if (pick a b c).2 then [((0, n, 0, 0) : Cl)] else []) = [] → (pick a b c).1 = (pick a c b).1 := fun {a b c} e => by
    apply pick_turn1
    cases hp : (pick a b c).2 with
    | false => rfl
    | true => rw [hp] at e; cases e
  cases o with
  | none => cases x <;> cases y <;> exact key hc
  | some o =>
    cases x with
    | none => cases y <;> exact key hc
    | some x =>
      cases y with
      | none => exact key hc
      | some y =>
        simp only [slotC] at hc
        simp only [slotF]
        by_cases e : o.1 = x.1 ∧ o.1 = y.1
        · rw [if_pos e] at hc
          rw [if_pos e, if_pos ⟨e.2, e.1⟩, compsF_turn hl (hx x rfl) (hy y rfl) hc, ← e.1, ← e.2]
        · rw [if_neg e] at hc
          rw [if_neg e, if_neg (fun h => e ⟨h.2, h.1⟩), key hc]
theorem slotsN_turn (o x y : Wv κ) : slotsN o x y = slotsN o y x := by unfold slotsN; omega
theorem mergeC_turn (hl : Len hold) {o x y : Wv κ} (hx : VW hold x) (hy : VW hold y) (h1 : x.ks = o.ks) (h2 : y.ks = o.ks) : mergeC o x y = mergeC o y x := by
  unfold mergeC clsF
  rw [slotsN_turn]
  exact flat_congr fun n _ => slotC_turn (hold := hold) (ks := o.ks) hl _ _ (by rw [← h1]; exact hx.fv n) (by rw [← h2]; exact hy.fv n)
theorem mergeF_turn (hl : Len hold) {o x y : Wv κ} (hx : VW hold x) (hy : VW hold y) (h1 : x.ks = o.ks) (h2 : y.ks = o.ks) (hc : mergeC o x y = []) : mergeF o x y = mergeF o y x := by
  unfold mergeC clsF at hc
  rw [List.flatMap_eq_nil_iff] at hc
  have hs : ∀ n ∈ List.range (slotsN o x y), slotAt o.ks.length o.its x.its y.its n = slotAt o.ks.length o.its y.its x.its n := fun n hn =>
    slotF_turn (hold := hold) (ks := o.ks) hl (by rw [← h1]; exact hx.fv n) (by rw [← h2]; exact hy.fv n) (hc n hn)
  unfold mergeF
  rw [← slotsN_turn o x y]
  congr 1
  · unfold gensF
    apply List.map_congr_left
    intro n hn
    show genF _ _ _ n (slotAt o.ks.length o.its x.its y.its n) = genF _ _ _ n (slotAt o.ks.length o.its y.its x.its n)
    rw [hs n hn]
    cases slotAt o.ks.length o.its y.its x.its n with
    | some it => rfl
    | none =>
      show max (max (max 0 (x.gens.getD n 0)) (y.gens.getD n 0)) (o.gens.getD n 0) = max (max (max 0 (y.gens.getD n 0)) (x.gens.getD n 0)) (o.gens.getD n 0)
      omega
  · unfold itsF
    exact flat_congr fun n hn => by rw [hs n hn]

/-! ### The result is valid -/
structure Mix (hold : κ → List Int → Bool) : Prop where
  mix : ∀ d x y z, hold d x = true → hold d y = true → z.length = x.length → (∀ i, i < x.length → z.getD i 0 = x.getD i 0 ∨ z.getD i 0 = y.getD i 0) → hold d z = true
theorem valF_or (o x y : Int) : valF o x y = x ∨ valF o x y = y := by unfold valF; split <;> (try split) <;> simp
theorem sorted_flat {α : Type} (key : α → Int) (f : Nat → List α) (K : Nat) (h1 : ∀ n, (f n).length ≤ 1) (h : ∀ n, ∀ a ∈ f n, key a = n) : ((List.range K).flatMap f).Pairwise fun a b => key a < key b := by
  induction K with
  | zero => simp
  | succ K ih =>
    rw [List.range_succ, List.flatMap_append, List.pairwise_append]
    refine ⟨ih, ?_, fun a ha b hb => ?_⟩
    · simp only [List.flatMap_cons, List.flatMap_nil, List.append_nil]
      have := h1 K
      match f K, this with
      | [], _ => simp
      | [a], _ => simp
      | _ :: _ :: _, h => simp at h
    · obtain ⟨n, hn, ha⟩ := List.mem_flatMap.1 ha
      have hb' : b ∈ f K := by simpa using hb
      rw [h n a ha, h K b hb']
      have : n < K := by simpa using hn
      omega
theorem comp_ok (hm : Mix hold) {o x y : List Cv} (_ho : VCs hold ks o) (hx : VCs hold ks x) (hy : VCs hold ks y) {k : Nat} {v : List Int} (h : compF (findC o k) (findC x k) (findC y k) = some v) : ∃ d, ks[k]? = some d ∧ hold d v = true := by
  have key : ∀ {a : Option (List Int)}, (pick a (findC x k) (findC y k)).1 = some v → ∃ d, ks[k]? = some d ∧ hold d v = true := fun {a} e => by
    rcases pick_or a (findC x k) (findC y k) with h2 | h2
    · exact hx.at_ (h2.symm.trans e)
    · exact hy.at_ (h2.symm.trans e)
  cases h1 : findC o k with
  | none => rw [h1] at h; exact key (a := none) (by cases h2 : findC x k <;> cases h3 : findC y k <;> rw [h2, h3] at h <;> exact h)
  | some u =>
    cases h2 : findC x k with
    | none => rw [h1] at h; exact key (a := some u) (by cases h3 : findC y k <;> rw [h2, h3] at h <;> rw [h2] <;> exact h)
    | some a =>
      cases h3 : findC y k with
      | none => rw [h1] at h; exact key (a := some u) (by rw [h2, h3] at h; rw [h2, h3]; exact h)
      | some b =>
        rw [h1, h2, h3] at h
        have e : valsF u a b = v := by injection h
        obtain ⟨d, e1, e2⟩ := hx.at_ h2
        obtain ⟨d', e3, e4⟩ := hy.at_ h3
        rw [e1] at e3
        injection e3 with e3
        subst e3
        refine ⟨d, e1, hm.mix d a b v e2 e4 (by rw [← e]; simp [valsF]) fun i hi => ?_⟩
        rw [← e]
        have : (valsF u a b).getD i 0 = valF (u.getD i 0) (a.getD i 0) (b.getD i 0) := by
          unfold valsF
          simp [List.getD, hi]
        rw [this]
        exact valF_or _ _ _
theorem compsF_ok (hm : Mix hold) {o x y : List Cv} (ho : VCs hold ks o) (hx : VCs hold ks x) (hy : VCs hold ks y) : VCs hold ks (compsF ks.length o x y) := by
  refine ⟨sorted_flat (fun c : Cv => c.1) _ _ (fun n => ?_) (fun n a ha => ?_), fun c hc => ?_⟩
  · cases compF (findC o n) (findC x n) (findC y n) <;> simp [optC]
  · cases h : compF (findC o n) (findC x n) (findC y n) with
    | none => rw [h] at ha; cases ha
    | some v => rw [h] at ha; have : a = ((n : Int), v) := by simpa [optC] using ha
                rw [this]
  · unfold compsF at hc
    obtain ⟨n, hn, ha⟩ := List.mem_flatMap.1 hc
    cases h : compF (findC o n) (findC x n) (findC y n) with
    | none => rw [h] at ha; cases ha
    | some v =>
      rw [h] at ha
      have e : c = ((n : Int), v) := by simpa [optC] using ha
      obtain ⟨d, e1, e2⟩ := comp_ok hm ho hx hy h
      exact ⟨n, d, by rw [e], e1, by rw [e]; exact e2⟩
theorem slot_ok (hm : Mix hold) {o x y : Wv κ} (ho : VW hold o) (hx : VW hold x) (hy : VW hold y) (h1 : x.ks = o.ks) (h2 : y.ks = o.ks) {n : Nat} {it : Iv} (h : slotAt o.ks.length o.its x.its y.its n = some it) :
    it.1.1 = n ∧ 0 ≤ it.1.2 ∧ it.1.2 < 1073741824 ∧ VCs hold o.ks it.2 := by
  have fx : ∀ it, findI x.its n = some it → it.1.1 = n ∧ 0 ≤ it.1.2 ∧ it.1.2 < 1073741824 ∧ VCs hold o.ks it.2 := fun it hf => by
    obtain ⟨a, b, c, d⟩ := hx.find hf
    have := hx.gens _ (List.mem_of_getElem? b)
    exact ⟨a, this.1, by omega, by rw [← h1]; exact d⟩
  have fy : ∀ it, findI y.its n = some it → it.1.1 = n ∧ 0 ≤ it.1.2 ∧ it.1.2 < 1073741824 ∧ VCs hold o.ks it.2 := fun it hf => by
    obtain ⟨a, b, c, d⟩ := hy.find hf
    have := hy.gens _ (List.mem_of_getElem? b)
    exact ⟨a, this.1, by omega, by rw [← h2]; exact d⟩
  have key : ∀ {a : Option Iv}, (pick a (findI x.its n) (findI y.its n)).1 = some it → it.1.1 = n ∧ 0 ≤ it.1.2 ∧ it.1.2 < 1073741824 ∧ VCs hold o.ks it.2 := fun {a} e => by
    rcases pick_or a (findI x.its n) (findI y.its n) with h2 | h2
    · exact fx _ (h2.symm.trans e)
    · exact fy _ (h2.symm.trans e)
  unfold slotAt at h
  cases e1 : findI o.its n with
  | none => rw [e1] at h; exact key (a := none) (by cases e2 : findI x.its n <;> cases e3 : findI y.its n <;> rw [e2, e3] at h <;> exact h)
  | some u =>
    cases e2 : findI x.its n with
    | none => rw [e1] at h; exact key (a := some u) (by cases e3 : findI y.its n <;> rw [e2, e3] at h <;> rw [e2] <;> exact h)
    | some a =>
      cases e3 : findI y.its n with
      | none => rw [e1] at h; exact key (a := some u) (by rw [e2, e3] at h; rw [e2, e3]; exact h)
      | some b =>
        rw [e1, e2, e3] at h
        simp only [slotF] at h
        by_cases e : u.1 = a.1 ∧ u.1 = b.1
        · rw [if_pos e] at h
          injection h with h
          obtain ⟨a1, a2, a3, a4⟩ := fx a e2
          rw [← h]
          exact ⟨a1, a2, a3, compsF_ok hm (ho.fv n u e1) a4 (fy b e3).2.2.2⟩
        · rw [if_neg e] at h
          exact key (a := some u) (by rw [e2, e3]; exact h)
theorem getD_le {l : List Int} {M : Int} (h : ∀ g ∈ l, g ≤ M) (hM : 0 ≤ M) (n : Nat) : l.getD n 0 ≤ M := by
  by_cases hn : n < l.length
  · have e : l.getD n 0 = l[n] := by simp [List.getD, List.getElem?_eq_getElem hn]
    rw [e]; exact h _ (List.getElem_mem hn)
  · simp [List.getD, List.getElem?_eq_none (show l.length ≤ n by omega)]; exact hM
theorem merge_ok (hm : Mix hold) {o x y : Wv κ} (ho : VW hold o) (hx : VW hold x) (hy : VW hold y) (h1 : x.ks = o.ks) (h2 : y.ks = o.ks) : VW hold (mergeF o x y) := by
  have hN : slotsN o x y ≤ 256 := by unfold slotsN; have := ho.many; have := hx.many; have := hy.many; omega
  refine ⟨by simp [mergeF, gensF]; exact hN, fun g hg => ?_, sorted_flat (fun c : Iv => c.1.1) _ _ (fun n => ?_) (fun n a ha => ?_), fun it hit => ?_⟩
  · obtain ⟨n, hn, rfl⟩ := List.mem_map.1 hg
    show 0 ≤ genF _ _ _ n (slotAt o.ks.length o.its x.its y.its n) ∧ genF _ _ _ n (slotAt o.ks.length o.its x.its y.its n) ≤ _
    cases hs : slotAt o.ks.length o.its x.its y.its n with
    | some it =>
      obtain ⟨_, a, b, _⟩ := slot_ok hm ho hx hy h1 h2 hs
      exact ⟨a, by show it.1.2 ≤ _; omega⟩
    | none =>
      have a1 := getD_le (fun g hg => (hx.gens g hg).2) (by omega) n
      have a2 := getD_le (fun g hg => (hy.gens g hg).2) (by omega) n
      have a3 := getD_le (fun g hg => (ho.gens g hg).2) (by omega) n
      show 0 ≤ max (max (max 0 (x.gens.getD n 0)) (y.gens.getD n 0)) (o.gens.getD n 0) ∧ max (max (max 0 (x.gens.getD n 0)) (y.gens.getD n 0)) (o.gens.getD n 0) ≤ _
      omega
  · cases slotAt o.ks.length o.its x.its y.its n <;> simp
  · have : slotAt o.ks.length o.its x.its y.its n = some a := by simpa using ha
    exact (slot_ok hm ho hx hy h1 h2 this).1
  · unfold mergeF itsF at hit
    obtain ⟨n, hn, ha⟩ := List.mem_flatMap.1 hit
    have hs : slotAt o.ks.length o.its x.its y.its n = some it := by simpa using ha
    obtain ⟨a, b, c, d⟩ := slot_ok hm ho hx hy h1 h2 hs
    refine ⟨⟨n, a, ?_⟩, by omega, d⟩
    have hn' : n < slotsN o x y := by simpa using hn
    show ((List.range (slotsN o x y)).map _)[n]? = _
    rw [List.getElem?_map, List.getElem?_range hn']
    show some (genF _ _ _ n (slotAt o.ks.length o.its x.its y.its n)) = _
    rw [hs]; rfl
end
end Go.Proofs.Ytnidcmhfbkdioaa
