/-
  Plain: drawn templates are valid, what they build, the replacements between two builds. Templates in memory by the types of their blocks. Conditions: none.
-/
import Derived.Test.YtnidcmhfbkdioaaPn
import Derived.Test.YtnidcmhfbkdioaaMx
import Derived.Test.YtnidcmhfbkdioaaMg
namespace Go.Proofs.Ytnidcmhfbkdioaa
open Go.RowKit
set_option maxRecDepth 100000

/-! ### Pq -/
abbrev Osv := List (List Int × Int × Int × Int)
/-- What the parts build, from part i on, the part's number ahead of each path. -/
def subL (build : Int → Osv → Int × List Blt) : Nat → List (Int × Osv) → List Blt
  | _, [] => []
  | i, p :: r => ((build p.1 p.2).2.map fun b => ((i : Int) :: b.1, b.2)) ++ subL build (i + 1) r
theorem partsF_ok {build : Int → Osv → Int × List Blt} : ∀ (ps : List (Int × Osv)) (i : Nat) (out : List Blt), (∀ p ∈ ps, (build p.1 p.2).1 = 0) → out.length + (subL build i ps).length ≤ 200 → partsF build i ps out = (0, out ++ subL build i ps)
  | [], _, out, _, _ => by rw [partsF, subL, List.append_nil]
  | p :: r, i, out, h, hl => by
    rw [subL, List.length_append] at hl
    rw [partsF, if_neg (by rw [h p (List.mem_cons_self ..)]; simp), if_neg (by rw [List.length_append]; omega), partsF_ok r (i + 1) _ (fun q hq => h q (List.mem_cons_of_mem _ hq)) (by rw [List.length_append]; omega), subL, List.append_assoc]
theorem partsF_congr {build build' : Int → Osv → Int × List Blt} : ∀ (ps : List (Int × Osv)) (i : Nat) (out : List Blt), (∀ p ∈ ps, build p.1 p.2 = build' p.1 p.2) → partsF build i ps out = partsF build' i ps out
  | [], _, out, _ => rfl
  | p :: r, i, out, h => by
    rw [partsF, partsF, h p (List.mem_cons_self ..), partsF_congr r (i + 1) _ (fun q hq => h q (List.mem_cons_of_mem _ hq))]
theorem buildF_fuel {ks : List Kp2} {T : List Tpl} (h : ∀ (n : Nat) (t : Tpl), T[n]? = some t → ∀ p ∈ t.2, ∃ k : Nat, p.1 = k ∧ k < n) : ∀ (n d d' : Nat), n < d → n < d' → ∀ os, buildF ks T d n os = buildF ks T d' n os := by
  intro n
  induction n using Nat.strongRecOn with
  | _ n ih =>
    intro d d' hd hd' os
    obtain ⟨e, rfl⟩ : ∃ e, d = e + 1 := ⟨d - 1, by omega⟩
    obtain ⟨e', rfl⟩ : ∃ e, d' = e + 1 := ⟨d' - 1, by omega⟩
    unfold buildF
    rw [Int.toNat_natCast]
    cases hn : T[n]? with
    | none => rfl
    | some t =>
      dsimp only
      rw [partsF_congr (build := buildF ks T e) (build' := buildF ks T e') t.2 0 [([], t.1)] fun p hp => by
        obtain ⟨k, hk, hkn⟩ := h n t hn p hp
        rw [hk]; exact ih k hkn e e' (by omega) (by omega) p.2]

/-- A replacement of the first value of the first component of a template, in its range. -/
def GoodOv (ks : List Kp2) (u : Tpl) (os : Osv) : Prop :=
  os = [] ∨ ∃ (k : Nat) (V : Int) (v : List Int) (r : List (Int × List Int)) (d : Kp2), os = [([], (k : Int), 0, V)] ∧ u.1 = ((k : Int), v) :: r ∧ v ≠ [] ∧ ks[k]? = some d ∧ holdK d (v.set 0 V) = true
/-- Drawn templates. -/
structure DrT (ks : List Kp2) (T : List Tpl) : Prop where
  comps : ∀ t ∈ T, VCs holdK ks t.1
  few : ∀ t ∈ T, t.2.length ≤ 2
  parts : ∀ (n : Nat) (t : Tpl), T[n]? = some t → ∀ p ∈ t.2, ∃ (k : Nat) (u : Tpl), p.1 = k ∧ k < n ∧ T[k]? = some u ∧ GoodOv ks u p.2
theorem DrT.nil {ks : List Kp2} : DrT ks [] := ⟨(fun t ht => by cases ht), (fun t ht => by cases ht), (fun n t h => by simp at h)⟩
theorem DrT.snoc {ks : List Kp2} {T : List Tpl} (h : DrT ks T) {t : Tpl} (hc : VCs holdK ks t.1) (hf : t.2.length ≤ 2) (hp : ∀ p ∈ t.2, ∃ (k : Nat) (u : Tpl), p.1 = k ∧ T[k]? = some u ∧ GoodOv ks u p.2) : DrT ks (T ++ [t]) := by
  refine ⟨fun x hx => ?_, fun x hx => ?_, fun n x hx p hpx => ?_⟩
  · rcases List.mem_append.1 hx with hx | hx
    · exact h.comps x hx
    · rw [List.mem_singleton.1 hx]; exact hc
  · rcases List.mem_append.1 hx with hx | hx
    · exact h.few x hx
    · rw [List.mem_singleton.1 hx]; exact hf
  · rcases Nat.lt_or_ge n T.length with hn | hn
    · rw [List.getElem?_append_left hn] at hx
      obtain ⟨k, u, h1, h2, h3, h4⟩ := h.parts n x hx p hpx
      exact ⟨k, u, h1, h2, by rw [List.getElem?_append_left (by omega)]; exact h3, h4⟩
    · have hl := (List.getElem?_eq_some_iff.1 hx).1
      rw [List.length_append] at hl
      have e : n = T.length := by simp at hl; omega
      subst e
      have e2 : t = x := by simpa using hx
      subst e2
      obtain ⟨k, u, h1, h3, h4⟩ := hp p hpx
      have hk := (List.getElem?_eq_some_iff.1 h3).1
      exact ⟨k, u, h1, hk, by rw [List.getElem?_append_left hk]; exact h3, h4⟩
theorem fit_held {d : Kp2} {v : List Int} (h : holdK d v = true) : fitF d.1 d.2 v = (v, 0) := by
  unfold holdK holdsF at h
  simp only [Bool.and_eq_true, decide_eq_true_eq] at h
  exact Prod.ext h.2 h.1
theorem pcompF_ok {ks : List Kp2} : ∀ (l : List (Int × List Int)) (pr : Option Int), VCs holdK ks l → (∀ p, pr = some p → ∀ c ∈ l, p < c.1) → pcompF ks pr l = 0
  | [], _, _, _ => rfl
  | x :: r, pr, h, hp => by
    rw [pcompF_cons]
    obtain ⟨k, d, h1, h2, h3⟩ := h.ok x (List.mem_cons_self ..)
    have hk := (List.getElem?_eq_some_iff.1 h2).1
    rw [if_neg (by omega), if_neg ?_]
    · rw [h1, Int.toNat_natCast, h2]
      dsimp only
      rw [fit_held h3]
      simp only [ne_eq, not_true_eq_false, if_false]
      refine pcompF_ok r _ ⟨(List.pairwise_cons.1 h.sorted).2, fun c hc => h.ok c (List.mem_cons_of_mem _ hc)⟩ fun p hpe c hc => ?_
      injection hpe with hpe
      rw [← hpe, ← h1]
      exact (List.pairwise_cons.1 h.sorted).1 c hc
    · cases pr with
      | none => simp
      | some p =>
        have := hp p rfl x (List.mem_cons_self ..)
        simp; omega
theorem good_zero {ks : List Kp2} {u : Tpl} {os : Osv} (h : GoodOv ks u os) (rest : List Blt) : (oversF ks os (([], u.1) :: rest)).1 = 0 ∧ (oversF ks os (([], u.1) :: rest)).2.length = rest.length + 1 := by
  rcases h with rfl | ⟨k, V, v, r, d, rfl, hu1, hv, hk, hh⟩
  · exact ⟨rfl, rfl⟩
  · have hc : ovCode ks (([], u.1) :: rest) [] (k : Int) 0 V = 0 := by
      unfold ovCode
      rw [List.find?_cons_of_pos (by simp)]
      dsimp only
      rw [hu1, List.find?_cons_of_pos (by simp)]
      dsimp only
      have hvl : 0 < v.length := List.length_pos_iff.2 hv
      rw [if_neg (by omega)]
      unfold fitV
      rw [Int.toNat_natCast, hk]
      dsimp only
      rw [show (0 : Int).toNat = 0 from rfl, fit_held hh]
      simp
    rw [oversF, if_neg (by show ¬ ovCode ks (([], u.1) :: rest) [] (k : Int) 0 V ≠ 0; rw [hc]; simp), oversF]
    refine ⟨rfl, ?_⟩
    show (ovSet _ _ _ _ _).length = _
    unfold ovSet
    rw [modF_length, List.length_cons]
theorem good_len {ks : List Kp2} {u : Tpl} {os : Osv} (h : GoodOv ks u os) : os.length ≤ 1 := by
  rcases h with rfl | ⟨k, V, v, r, d, rfl, _⟩
  · exact Nat.zero_le _
  · exact Nat.le_refl _
theorem subL_len {build : Int → Osv → Int × List Blt} {m : Nat} : ∀ (ps : List (Int × Osv)) (i : Nat), (∀ p ∈ ps, (build p.1 p.2).2.length ≤ m) → (subL build i ps).length ≤ ps.length * m
  | [], _, _ => Nat.zero_le _
  | p :: r, i, h => by
    rw [subL, List.length_append, List.length_map, List.length_cons, Nat.succ_mul]
    have := h p (List.mem_cons_self ..)
    have := subL_len r (i + 1) (fun q hq => h q (List.mem_cons_of_mem _ hq))
    omega
theorem two_pow_mono {a b : Nat} (h : a ≤ b) : 2 ^ a ≤ 2 ^ b := Nat.pow_le_pow_right (by decide) h
/-- A drawn template is built. -/
theorem DrT.build {ks : List Kp2} {T : List Tpl} (h : DrT ks T) (h4 : T.length ≤ 4) : ∀ (n d : Nat) (t : Tpl) (os : Osv), n < d → T[n]? = some t → GoodOv ks t os → (buildF ks T d n os).1 = 0 ∧ (buildF ks T d n os).2.length + 1 ≤ 2 ^ (n + 1) ∧ (os = [] → buildF ks T d n os = (0, ([], t.1) :: subL (buildF ks T (d - 1)) 0 t.2)) := by
  intro n
  induction n using Nat.strongRecOn with
  | _ n ih =>
    intro d t os hd hn ho
    obtain ⟨e, rfl⟩ : ∃ e, d = e + 1 := ⟨d - 1, by omega⟩
    have htm := List.mem_of_getElem? hn
    have hnT := (List.getElem?_eq_some_iff.1 hn).1
    have hi : ∀ p ∈ t.2, (buildF ks T e p.1 p.2).1 = 0 ∧ (buildF ks T e p.1 p.2).2.length ≤ 2 ^ n - 1 := fun p hp => by
      obtain ⟨k, u, h1, h2, h3, h5⟩ := h.parts n t hn p hp
      rw [h1]
      obtain ⟨a, b, _⟩ := ih k h2 e u p.2 (by omega) h3 h5
      have := two_pow_mono (show k + 1 ≤ n by omega)
      exact ⟨a, by omega⟩
    have hsl := subL_len t.2 0 (fun p hp => (hi p hp).2)
    have hfew := h.few t htm
    have hp1 : 1 ≤ 2 ^ n := Nat.one_le_two_pow
    have hp3 : 2 ^ n ≤ 2 ^ 3 := two_pow_mono (show n ≤ 3 by omega)
    have hps : 2 ^ (n + 1) = 2 * 2 ^ n := by rw [Nat.pow_succ, Nat.mul_comm]
    have hmul : t.2.length * (2 ^ n - 1) ≤ 2 * (2 ^ n - 1) := Nat.mul_le_mul_right _ hfew
    have hpf := partsF_ok (build := buildF ks T e) t.2 0 [([], t.1)] (fun p hp => (hi p hp).1) (by simp; omega)
    have hu : buildF ks T (e + 1) n os = oversF ks os (([], t.1) :: subL (buildF ks T e) 0 t.2) := by
      rw [buildF, if_neg (by have := good_len ho; omega), Int.toNat_natCast, hn]
      dsimp only
      rw [hpf]
      simp
    obtain ⟨z1, z2⟩ := good_zero ho (subL (buildF ks T e) 0 t.2)
    rw [hu]
    refine ⟨z1, by omega, fun hos => by rw [hos]; rfl⟩

/-! ### Pr -/
structure OvY (w : World) (B : Nat) (x : Ov) : Prop where
  rd : RdY w B 3 1 x.pA x.pn (x.path.map (Value.int .i64))
  len : x.pn = x.path.length
  cap : x.pn ≤ x.pc
  cap2 : x.pc ≤ 9223372036854775807
  wK : (Lit.int .i64 x.K).wf = true
  wF : (Lit.int .i64 x.F).wf = true
  wV : (Lit.int .i64 x.V).wf = true
theorem OvY.keep {w w' : World} {B : Nat} {F : List TypeId} {x : Ov} (h : OvY w B x) (hq : Kx B F w w') (h3 : (3 : TypeId) ∉ F) : OvY w' B x := ⟨h.rd.keep hq h3, h.len, h.cap, h.cap2, h.wK, h.wF, h.wV⟩
theorem OvY.ok_ {w : World} {B : Nat} {x : Ov} (h : OvY w B x) : OvOk w w.heap.size x := ⟨h.rd.rd, h.len, h.cap, h.cap2, h.wK, h.wF, h.wV⟩
theorem OvY.of_ok {w : World} {B B0 : Nat} {x : Ov} (h : OvOk w B0 x) (hB : B0 ≤ B) (hw : B0 ≤ w.heap.size) : OvY w B x := ⟨.of_rd h.rd hB hw, h.len, h.cap, h.cap2, h.wK, h.wF, h.wV⟩
structure OvsY (w : World) (B : Nat) (A : Option Addr) (n c : Nat) (l : List Ov) : Prop where
  rd : RdY w B 158 4 A n (ovCs l)
  len : n = l.length
  cap : n ≤ c
  cap2 : c ≤ 9223372036854775807
  ok : ∀ x ∈ l, OvY w B x
theorem OvsY.keep {w w' : World} {B n c : Nat} {A : Option Addr} {F : List TypeId} {l : List Ov} (h : OvsY w B A n c l) (hq : Kx B F w w') (h3 : (3 : TypeId) ∉ F) (h158 : (158 : TypeId) ∉ F) : OvsY w' B A n c l := ⟨h.rd.keep hq h158, h.len, h.cap, h.cap2, fun x hx => (h.ok x hx).keep hq h3⟩
theorem OvsY.ok_ {w : World} {B n c : Nat} {A : Option Addr} {l : List Ov} (h : OvsY w B A n c l) : OvsOk w w.heap.size A n c l := ⟨h.rd.rd, h.len, h.cap, h.cap2, fun x hx => (h.ok x hx).ok_, Nat.le_refl _⟩
theorem OvsY.of_ok {w : World} {B B0 n c : Nat} {A : Option Addr} {l : List Ov} (h : OvsOk w B0 A n c l) (hB : B0 ≤ B) : OvsY w B A n c l := ⟨.of_rd h.rd hB h.lo, h.len, h.cap, h.cap2, fun x hx => .of_ok (h.ok x hx) hB h.lo⟩
structure PtY (w : World) (B : Nat) (x : Pt) : Prop where
  ov : OvsY w B x.oA x.on x.oc x.ovs
  wf : (Lit.int .i64 x.of_).wf = true
theorem PtY.keep {w w' : World} {B : Nat} {F : List TypeId} {x : Pt} (h : PtY w B x) (hq : Kx B F w w') (h3 : (3 : TypeId) ∉ F) (h158 : (158 : TypeId) ∉ F) : PtY w' B x := ⟨h.ov.keep hq h3 h158, h.wf⟩
theorem PtY.ok_ {w : World} {B : Nat} {x : Pt} (h : PtY w B x) : PtOk w w.heap.size x := ⟨h.ov.ok_, h.wf⟩
theorem PtY.of_ok {w : World} {B B0 : Nat} {x : Pt} (h : PtOk w B0 x) (hB : B0 ≤ B) (_ : B0 ≤ w.heap.size) : PtY w B x := ⟨.of_ok h.ov hB, h.wf⟩
structure PtsY (w : World) (B : Nat) (A : Option Addr) (n c : Nat) (l : List Pt) : Prop where
  rd : RdY w B 46 2 A n (ptCs l)
  len : n = l.length
  cap : n ≤ c
  cap2 : c ≤ 9223372036854775807
  ok : ∀ x ∈ l, PtY w B x
theorem PtsY.keep {w w' : World} {B n c : Nat} {A : Option Addr} {F : List TypeId} {l : List Pt} (h : PtsY w B A n c l) (hq : Kx B F w w') (h3 : (3 : TypeId) ∉ F) (h158 : (158 : TypeId) ∉ F) (h46 : (46 : TypeId) ∉ F) : PtsY w' B A n c l := ⟨h.rd.keep hq h46, h.len, h.cap, h.cap2, fun x hx => (h.ok x hx).keep hq h3 h158⟩
theorem PtsY.ok_ {w : World} {B n c : Nat} {A : Option Addr} {l : List Pt} (h : PtsY w B A n c l) : PtsOk w w.heap.size A n c l := ⟨h.rd.rd, h.len, h.cap, h.cap2, fun x hx => (h.ok x hx).ok_, Nat.le_refl _⟩
theorem PtsY.of_ok {w : World} {B B0 n c : Nat} {A : Option Addr} {l : List Pt} (h : PtsOk w B0 A n c l) (hB : B0 ≤ B) : PtsY w B A n c l := ⟨.of_rd h.rd hB h.lo, h.len, h.cap, h.cap2, fun x hx => .of_ok (h.ok x hx) hB h.lo⟩
structure PfY (w : World) (B : Nat) (x : Pf) : Prop where
  cs : CsY w B x.cA x.cn x.cc x.cms
  ts : PtsY w B x.tA x.tn x.tc x.pts
theorem PfY.keep {w w' : World} {B : Nat} {F : List TypeId} {x : Pf} (h : PfY w B x) (hq : Kx B F w w') (h3 : (3 : TypeId) ∉ F) (h158 : (158 : TypeId) ∉ F) (h46 : (46 : TypeId) ∉ F) (h166 : (166 : TypeId) ∉ F) : PfY w' B x := ⟨h.cs.keep hq h3 h166, h.ts.keep hq h3 h158 h46⟩
theorem PfY.ok_ {w : World} {B : Nat} {x : Pf} (h : PfY w B x) : PfOk w w.heap.size x := ⟨h.cs.ok_, h.ts.ok_⟩
theorem PfY.of_ok {w : World} {B B0 : Nat} {x : Pf} (h : PfOk w B0 x) (hB : B0 ≤ B) (_ : B0 ≤ w.heap.size) : PfY w B x := ⟨.of_ok h.cs hB, .of_ok h.ts hB⟩
structure PfsY (w : World) (B : Nat) (A : Option Addr) (n c : Nat) (l : List Pf) : Prop where
  rd : RdY w B 43 2 A n (pfCs l)
  len : n = l.length
  cap : n ≤ c
  cap2 : c ≤ 9223372036854775807
  ok : ∀ x ∈ l, PfY w B x
theorem PfsY.keep {w w' : World} {B n c : Nat} {A : Option Addr} {F : List TypeId} {l : List Pf} (h : PfsY w B A n c l) (hq : Kx B F w w') (h3 : (3 : TypeId) ∉ F) (h158 : (158 : TypeId) ∉ F) (h46 : (46 : TypeId) ∉ F) (h166 : (166 : TypeId) ∉ F) (h43 : (43 : TypeId) ∉ F) : PfsY w' B A n c l := ⟨h.rd.keep hq h43, h.len, h.cap, h.cap2, fun x hx => (h.ok x hx).keep hq h3 h158 h46 h166⟩
theorem PfsY.ok_ {w : World} {B n c : Nat} {A : Option Addr} {l : List Pf} (h : PfsY w B A n c l) : PfsOk w w.heap.size A n c l := ⟨h.rd.rd, h.len, h.cap, h.cap2, fun x hx => (h.ok x hx).ok_, Nat.le_refl _⟩
theorem PfsY.of_ok {w : World} {B B0 n c : Nat} {A : Option Addr} {l : List Pf} (h : PfsOk w B0 A n c l) (hB : B0 ≤ B) : PfsY w B A n c l := ⟨.of_rd h.rd hB h.lo, h.len, h.cap, h.cap2, fun x hx => .of_ok (h.ok x hx) hB h.lo⟩

/-! ### Qa -/
/-- The replacements between two rows of values, from field f on. -/
def valsD (path : List Int) (K : Int) : Nat → List Int → List Int → Osv
  | f, a :: l, b :: r => if b ≠ a then (path, K, (f : Int), b) :: valsD path K (f + 1) l r else valsD path K (f + 1) l r
  | _, _, _ => []
def cmsD (path : List Int) : List (Int × List Int) → List (Int × List Int) → Osv
  | c :: l, d :: r => valsD path c.1 0 c.2 d.2 ++ cmsD path l r
  | _, _ => []
/-- The replacements between two builds. -/
def diffD : List Blt → List Blt → Osv
  | b :: l, w :: r => cmsD b.1 b.2 w.2 ++ diffD l r
  | _, _ => []
/-- The form of an entity: its path, its kinds, how many values. -/
def shp (b : Blt) : List Int × List (Int × Nat) := (b.1, b.2.map fun c => (c.1, c.2.length))
def shC (c : Int × List Int) : Int × Nat := (c.1, c.2.length)
theorem shp_eq {b w : Blt} (h : shp b = shp w) : b.1 = w.1 ∧ b.2.map shC = w.2.map shC := by
  unfold shp at h
  injection h with h1 h2
  exact ⟨h1, h2⟩
theorem modF_map {α β : Type} {p : α → Bool} {f : α → α} {g : α → β} (h : ∀ x, g (f x) = g x) (l : List α) : (modF p f l).map g = l.map g := by
  induction l with
  | nil => rfl
  | cons a r ih =>
    unfold modF
    split
    · rw [List.map_cons, List.map_cons, h]
    · rw [List.map_cons, List.map_cons, ih]
theorem ovSet_shp (l : List Blt) (path : List Int) (K F V : Int) : (ovSet l path K F V).map shp = l.map shp := by
  unfold ovSet
  refine modF_map (fun x => ?_) l
  unfold shp
  dsimp only
  rw [show (fun c : Int × List Int => (c.1, c.2.length)) = shC from rfl, modF_map (g := shC) (fun c => by unfold shC; simp)]
theorem oversF_shp (ks : List Kp2) : ∀ (os : Osv) (l : List Blt), (oversF ks os l).1 = 0 → (oversF ks os l).2.map shp = l.map shp
  | [], _, _ => rfl
  | o :: r, l, h => by
    rw [oversF] at h ⊢
    split at h
    · rename_i h2; exact absurd h h2
    · rename_i h2
      rw [if_neg h2, oversF_shp ks r _ h, ovSet_shp]

/-! ### No more than there were -/
theorem valsD_set (path : List Int) (K : Int) (v : Int) : ∀ (l r : List Int) (f i : Nat), (valsD path K f l (r.set i v)).length ≤ (valsD path K f l r).length + 1
  | [], r, f, i => Nat.zero_le _
  | a :: l, [], f, i => Nat.zero_le _
  | a :: l, b :: r, f, 0 => by
    rw [List.set_cons_zero, valsD, valsD]
    split <;> split <;> (try simp only [List.length_cons]) <;> omega
  | a :: l, b :: r, f, i + 1 => by
    rw [List.set_cons_succ, valsD, valsD]
    have := valsD_set path K v l r (f + 1) i
    split <;> (try simp only [List.length_cons]) <;> omega
theorem cmsD_mod (path : List Int) {p : Int × List Int → Bool} {g : Int × List Int → Int × List Int} (hg : ∀ (K : Int) (l : List Int) (d : Int × List Int), (valsD path K 0 l (g d).2).length ≤ (valsD path K 0 l d.2).length + 1) : ∀ (l r : List (Int × List Int)), (cmsD path l (modF p g r)).length ≤ (cmsD path l r).length + 1
  | [], r => Nat.zero_le _
  | c :: l, [] => Nat.zero_le _
  | c :: l, d :: r => by
    rw [modF]
    split
    · rw [cmsD, cmsD, List.length_append, List.length_append]
      have := hg c.1 c.2 d
      omega
    · rw [cmsD, cmsD, List.length_append, List.length_append]
      have := cmsD_mod path (p := p) hg l r
      omega
theorem diffD_mod {p : Blt → Bool} {g : Blt → Blt} (hg : ∀ (path : List Int) (l : List (Int × List Int)) (x : Blt), (cmsD path l (g x).2).length ≤ (cmsD path l x.2).length + 1) : ∀ (l r : List Blt), (diffD l (modF p g r)).length ≤ (diffD l r).length + 1
  | [], r => Nat.zero_le _
  | b :: l, [] => Nat.zero_le _
  | b :: l, x :: r => by
    rw [modF]
    split
    · rw [diffD, diffD, List.length_append, List.length_append]
      have := hg b.1 b.2 x
      omega
    · rw [diffD, diffD, List.length_append, List.length_append]
      have := diffD_mod (p := p) hg l r
      omega
theorem diffD_ovSet (l r : List Blt) (path : List Int) (K F V : Int) : (diffD l (ovSet r path K F V)).length ≤ (diffD l r).length + 1 := by
  unfold ovSet
  exact diffD_mod (fun pt l x => cmsD_mod pt (fun K l d => valsD_set pt K V l d.2 0 F.toNat) l x.2) l r
theorem diffD_nil (l : List Blt) : diffD l [] = [] := by cases l <;> rfl
theorem diffD_overs (ks : List Kp2) (h : List Blt) : ∀ (os : Osv) (l : List Blt), (diffD h (oversF ks os l).2).length ≤ (diffD h l).length + os.length
  | [], l => Nat.le_refl _
  | o :: r, l => by
    rw [oversF]
    split
    · rw [diffD_nil]; exact Nat.zero_le _
    · have h1 := diffD_overs ks h r (ovSet l o.1 o.2.1 o.2.2.1 o.2.2.2)
      have h2 := diffD_ovSet h l o.1 o.2.1 o.2.2.1 o.2.2.2
      rw [List.length_cons]
      omega
theorem valsD_self (path : List Int) (K : Int) : ∀ (l : List Int) (f : Nat), valsD path K f l l = []
  | [], _ => rfl
  | a :: l, f => by rw [valsD, if_neg (by simp)]; exact valsD_self path K l (f + 1)
theorem cmsD_self (path : List Int) : ∀ (l : List (Int × List Int)), cmsD path l l = []
  | [] => rfl
  | c :: l => by rw [cmsD, valsD_self, cmsD_self path l]; rfl
theorem diffD_self : ∀ (l : List Blt), diffD l l = []
  | [] => rfl
  | b :: l => by rw [diffD, cmsD_self, diffD_self l]; rfl

/-! ### They build what was given -/
theorem modF_skip {α : Type} {p : α → Bool} {f : α → α} : ∀ {l : List α} (r : List α), (∀ x ∈ l, p x = false) → modF p f (l ++ r) = l ++ modF p f r
  | [], _, _ => rfl
  | a :: l, r, h => by
    rw [List.cons_append, modF, if_neg (by rw [h a (List.mem_cons_self ..)]; simp), modF_skip r (fun x hx => h x (List.mem_cons_of_mem _ hx)), List.cons_append]
theorem find_skip {α : Type} {p : α → Bool} : ∀ {l : List α} (r : List α), (∀ x ∈ l, p x = false) → (l ++ r).find? p = r.find? p
  | [], _, _ => rfl
  | a :: l, r, h => by
    rw [List.cons_append, List.find?_cons_of_neg (by rw [h a (List.mem_cons_self ..)]; simp), find_skip r (fun x hx => h x (List.mem_cons_of_mem _ hx))]
/-- One replacement, where it stands. -/
theorem over_at {ks : List Kp2} {pre post : List Blt} {cpre cpost : List (Int × List Int)} {path : List Int} {K V : Int} {f : Nat} {vs : List Int} {dk : Kp2} {rest : Osv} (hp : ∀ x ∈ pre, x.1 ≠ path) (hc : ∀ y ∈ cpre, y.1 ≠ K) (hf : f < vs.length) (hk : ks[K.toNat]? = some dk) (hh : holdK dk (vs.set f V) = true) :
    oversF ks ((path, K, (f : Int), V) :: rest) (pre ++ (path, cpre ++ (K, vs) :: cpost) :: post) = oversF ks rest (pre ++ (path, cpre ++ (K, vs.set f V) :: cpost) :: post) := by
  have h1 : ovCode ks (pre ++ (path, cpre ++ (K, vs) :: cpost) :: post) path K (f : Int) V = 0 := by
    unfold ovCode
    rw [find_skip _ (fun x hx => by simp [hp x hx]), List.find?_cons_of_pos (by simp)]
    dsimp only
    rw [find_skip _ (fun x hx => by simp [hc x hx]), List.find?_cons_of_pos (by simp)]
    dsimp only
    rw [if_neg (by omega)]
    unfold fitV
    rw [hk]
    dsimp only
    rw [Int.toNat_natCast, fit_held hh]
    simp
  have h2 : ovSet (pre ++ (path, cpre ++ (K, vs) :: cpost) :: post) path K (f : Int) V = pre ++ (path, cpre ++ (K, vs.set f V) :: cpost) :: post := by
    unfold ovSet
    rw [modF_skip _ (fun x hx => by simp [hp x hx]), modF, if_pos (by simp)]
    dsimp only
    rw [modF_skip _ (fun x hx => by simp [hc x hx]), modF, if_pos (by simp)]
    dsimp only
    rw [Int.toNat_natCast]
  rw [oversF]
  dsimp only
  rw [if_neg (by rw [h1]; simp), h2]
theorem holdK_swap {d : Kp2} {x y : List Int} (hx : holdK d x = true) (hy : holdK d y = true) {i : Nat} {v : Int} (hv : y[i]? = some v) : holdK d (x.set i v) = true := by
  obtain ⟨a, b, c⟩ := holdK_iff.1 hx
  obtain ⟨_, b', c'⟩ := holdK_iff.1 hy
  have hil := (List.getElem?_eq_some_iff.1 hv).1
  refine holdK_iff.2 ⟨a, by rw [List.length_set]; exact b, fun j f hf => ?_⟩
  by_cases hij : i = j
  · subst hij
    have h1 : (x.set i v).getD i 0 = y.getD i 0 := by
      rw [List.getD_eq_getElem?_getD, List.getD_eq_getElem?_getD, hv, List.getElem?_set_self (by omega)]
    rw [h1]; exact c' i f hf
  · have h1 : (x.set i v).getD j 0 = x.getD j 0 := by
      rw [List.getD_eq_getElem?_getD, List.getD_eq_getElem?_getD, List.getElem?_set_ne hij]
    rw [h1]; exact c j f hf
theorem vals_build {ks : List Kp2} {pre post : List Blt} {cpre cpost : List (Int × List Int)} {path : List Int} {K : Int} {dk : Kp2} {rest : Osv} (hp : ∀ x ∈ pre, x.1 ≠ path) (hc : ∀ y ∈ cpre, y.1 ≠ K) (hk : ks[K.toNat]? = some dk) :
    ∀ (l r done : List Int), l.length = r.length → holdK dk (done ++ l) = true → holdK dk (done ++ r) = true →
    oversF ks (valsD path K done.length l r ++ rest) (pre ++ (path, cpre ++ (K, done ++ l) :: cpost) :: post) = oversF ks rest (pre ++ (path, cpre ++ (K, done ++ r) :: cpost) :: post)
  | [], [], done, _, _, _ => rfl
  | [], _ :: _, _, h, _, _ => by simp at h
  | _ :: _, [], _, h, _, _ => by simp at h
  | a :: l, b :: r, done, h, h1, h2 => by
    have e1 : done ++ b :: l = (done ++ [b]) ++ l := by simp
    have e2 : done ++ b :: r = (done ++ [b]) ++ r := by simp
    have hl : (done ++ [b]).length = done.length + 1 := by simp
    rw [valsD]
    by_cases hba : b ≠ a
    · have hset : (done ++ a :: l).set done.length b = done ++ b :: l := by simp
      have hm : holdK dk (done ++ b :: l) = true := by
        rw [← hset]; exact holdK_swap h1 h2 (by simp)
      rw [if_pos hba, List.cons_append, over_at hp hc (by simp) hk (by rw [hset]; exact hm), hset, e1, e2, ← hl]
      exact vals_build hp hc hk l r (done ++ [b]) (by simpa using h) (by rw [← e1]; exact hm) (by rw [← e2]; exact h2)
    · obtain rfl : b = a := Classical.byContradiction hba
      rw [if_neg hba, e1, e2, ← hl]
      exact vals_build hp hc hk l r (done ++ [b]) (by simpa using h) (by rw [← e1]; exact h1) (by rw [← e2]; exact h2)
theorem cms_build {ks : List Kp2} {pre post : List Blt} {path : List Int} {rest : Osv} (hp : ∀ x ∈ pre, x.1 ≠ path) :
    ∀ (l r done : List (Int × List Int)), l.map shC = r.map shC → (∀ y ∈ done, ∀ c ∈ l, y.1 < c.1) → VCs holdK ks l → VCs holdK ks r →
    oversF ks (cmsD path l r ++ rest) (pre ++ (path, done ++ l) :: post) = oversF ks rest (pre ++ (path, done ++ r) :: post)
  | [], [], done, _, _, _, _ => rfl
  | [], _ :: _, _, h, _, _, _ => by simp at h
  | _ :: _, [], _, h, _, _, _ => by simp at h
  | (K, vs) :: l, (K', vs') :: r, done, h, hd, h1, h2 => by
    rw [List.map_cons, List.map_cons] at h
    injection h with h3 h4
    unfold shC at h3
    dsimp only at h3
    injection h3 with h5 h6
    subst h5
    obtain ⟨k, d, e1, e2, e3⟩ := h1.ok _ (List.mem_cons_self ..)
    obtain ⟨k', d', f1, f2, f3⟩ := h2.ok _ (List.mem_cons_self ..)
    dsimp only at e1 e3 f1 f3
    have hkk : k' = k := by omega
    subst hkk
    rw [e2] at f2
    injection f2 with f2
    subst f2
    have e4 : done ++ (K, vs') :: l = (done ++ [(K, vs')]) ++ l := by simp
    have e5 : done ++ (K, vs') :: r = (done ++ [(K, vs')]) ++ r := by simp
    rw [cmsD]
    dsimp only
    rw [List.append_assoc]
    have hv := vals_build (ks := ks) (pre := pre) (post := post) (cpre := done) (cpost := l) (path := path) (K := K) (dk := d) (rest := cmsD path l r ++ rest) hp (fun y hy => by have := hd y hy _ (List.mem_cons_self ..); dsimp only at this; omega) (by rw [e1, Int.toNat_natCast]; exact e2) vs vs' [] h6 e3 f3
    rw [List.length_nil, List.nil_append, List.nil_append] at hv
    rw [hv, e4, e5]
    refine cms_build hp l r _ h4 (fun y hy c hc => ?_) ⟨(List.pairwise_cons.1 h1.sorted).2, fun c hc => h1.ok c (List.mem_cons_of_mem _ hc)⟩ ⟨(List.pairwise_cons.1 h2.sorted).2, fun c hc => h2.ok c (List.mem_cons_of_mem _ hc)⟩
    rcases List.mem_append.1 hy with hy | hy
    · exact hd y hy c (List.mem_cons_of_mem _ hc)
    · rw [List.mem_singleton.1 hy]
      exact (List.pairwise_cons.1 h1.sorted).1 c hc
theorem diff_build {ks : List Kp2} {rest : Osv} : ∀ (l r done : List Blt), l.map shp = r.map shp → (∀ y ∈ done, ∀ c ∈ l, y.1 ≠ c.1) → l.Pairwise (fun a b => a.1 ≠ b.1) → (∀ b ∈ l, VCs holdK ks b.2) → (∀ b ∈ r, VCs holdK ks b.2) →
    oversF ks (diffD l r ++ rest) (done ++ l) = oversF ks rest (done ++ r)
  | [], [], done, _, _, _, _, _ => rfl
  | [], _ :: _, _, h, _, _, _, _ => by simp at h
  | _ :: _, [], _, h, _, _, _, _ => by simp at h
  | (p, cs) :: l, (p', cs') :: r, done, h, hd, hpw, h1, h2 => by
    rw [List.map_cons, List.map_cons] at h
    injection h with h3 h4
    obtain ⟨h5, h6⟩ := shp_eq h3
    dsimp only at h5 h6
    subst h5
    have e4 : done ++ (p, cs') :: l = (done ++ [(p, cs')]) ++ l := by simp
    have e5 : done ++ (p, cs') :: r = (done ++ [(p, cs')]) ++ r := by simp
    rw [diffD]
    dsimp only
    rw [List.append_assoc]
    have hv := cms_build (ks := ks) (pre := done) (post := l) (path := p) (rest := diffD l r ++ rest) (fun x hx => hd x hx _ (List.mem_cons_self ..)) cs cs' [] h6 (fun y hy => by cases hy) (h1 _ (List.mem_cons_self ..)) (h2 _ (List.mem_cons_self ..))
    rw [List.nil_append, List.nil_append] at hv
    rw [hv, e4, e5]
    refine diff_build l r _ h4 (fun y hy c hc => ?_) (List.pairwise_cons.1 hpw).2 (fun b hb => h1 b (List.mem_cons_of_mem _ hb)) (fun b hb => h2 b (List.mem_cons_of_mem _ hb))
    rcases List.mem_append.1 hy with hy | hy
    · exact hd y hy c (List.mem_cons_of_mem _ hc)
    · rw [List.mem_singleton.1 hy]
      exact (List.pairwise_cons.1 hpw).1 c hc
/-- The replacements between two builds of one form build the second. -/
theorem diff_builds {ks : List Kp2} {l r : List Blt} (h : l.map shp = r.map shp) (hpw : l.Pairwise (fun a b => a.1 ≠ b.1)) (h1 : ∀ b ∈ l, VCs holdK ks b.2) (h2 : ∀ b ∈ r, VCs holdK ks b.2) : oversF ks (diffD l r) l = (0, r) := by
  have := diff_build (ks := ks) (rest := []) l r [] h (fun y hy => by cases hy) hpw h1 h2
  rw [List.append_nil, List.nil_append, List.nil_append] at this
  rw [this]; rfl
end Go.Proofs.Ytnidcmhfbkdioaa
