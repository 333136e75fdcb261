/-
  Plain: drawn templates are valid, and what they build. Conditions: none.
-/
import Derived.Test.YtnidcmhfbkdioaaPn
import Derived.Test.YtnidcmhfbkdioaaMx
namespace Go.Proofs.Ytnidcmhfbkdioaa
open Go.RowKit
set_option maxRecDepth 100000

abbrev Osv := List (List Int × Int × Int × Int)
/-- What the parts build, from part i on, the part's number ahead of each path. -/
def subL (build : Int → Osv → Int × List Blt) : Nat → List (Int × Osv) → List Blt
  | _, [] => []
  | i, p :: r => ((build p.1 p.2).2.map fun b => ((i : Int) :: b.1, b.2)) ++ subL build (i + 1) r
theorem partsF_ok {build : Int → Osv → Int × List Blt} : ∀ (ps : List (Int × Osv)) (i : Nat) (out : List Blt), (∀ p ∈ ps, (build p.1 p.2).1 = 0) → out.length + (subL build i ps).length ≤ 200 → partsF build i ps out = (0, out ++ subL build i ps)
  | [], _, out, _, _ => by rw [partsF, subL, List.append_nil]
  | p :: r, i, out, h, hl => by
    rw [subL, List.length_append] at hl
    rw [partsF, if_neg (by rw [h p (List.mem_cons_self ..)]; simp), if_neg (by rw [List.length_append]; omega), partsF_ok r (i + 1) _ (fun q hq => h q (List.mem_cons_of_mem _ hq)) (by rw [List.length_append]; omega), subL, List.append_assoc]
theorem partsF_congr {build build' : Int → Osv → Int × List Blt} : ∀ (ps : List (Int × Osv)) (i : Nat) (out : List Blt), (∀ p ∈ ps, build p.1 p.2 = build' p.1 p.2) → partsF build i ps out = partsF build' i ps out
  | [], _, out, _ => rfl
  | p :: r, i, out, h => by
    rw [partsF, partsF, h p (List.mem_cons_self ..), partsF_congr r (i + 1) _ (fun q hq => h q (List.mem_cons_of_mem _ hq))]
theorem buildF_fuel {ks : List Kp2} {T : List Tpl} (h : ∀ (n : Nat) (t : Tpl), T[n]? = some t → ∀ p ∈ t.2, ∃ k : Nat, p.1 = k ∧ k < n) : ∀ (n d d' : Nat), n < d → n < d' → ∀ os, buildF ks T d n os = buildF ks T d' n os := by
  intro n
  induction n using Nat.strongRecOn with
  | _ n ih =>
    intro d d' hd hd' os
    obtain ⟨e, rfl⟩ : ∃ e, d = e + 1 := ⟨d - 1, by omega⟩
    obtain ⟨e', rfl⟩ : ∃ e, d' = e + 1 := ⟨d' - 1, by omega⟩
    unfold buildF
    rw [Int.toNat_natCast]
    cases hn : T[n]? with
    | none => rfl
    | some t =>
      dsimp only
      rw [partsF_congr (build := buildF ks T e) (build' := buildF ks T e') t.2 0 [([], t.1)] fun p hp => by
        obtain ⟨k, hk, hkn⟩ := h n t hn p hp
        rw [hk]; exact ih k hkn e e' (by omega) (by omega) p.2]

/-- A replacement of the first value of the first component of a template, in its range. -/
def GoodOv (ks : List Kp2) (u : Tpl) (os : Osv) : Prop :=
  os = [] ∨ ∃ (k : Nat) (V : Int) (v : List Int) (r : List (Int × List Int)) (d : Kp2), os = [([], (k : Int), 0, V)] ∧ u.1 = ((k : Int), v) :: r ∧ v ≠ [] ∧ ks[k]? = some d ∧ holdK d (v.set 0 V) = true
/-- Drawn templates. -/
structure DrT (ks : List Kp2) (T : List Tpl) : Prop where
  comps : ∀ t ∈ T, VCs holdK ks t.1
  few : ∀ t ∈ T, t.2.length ≤ 2
  parts : ∀ (n : Nat) (t : Tpl), T[n]? = some t → ∀ p ∈ t.2, ∃ (k : Nat) (u : Tpl), p.1 = k ∧ k < n ∧ T[k]? = some u ∧ GoodOv ks u p.2
theorem DrT.nil {ks : List Kp2} : DrT ks [] := ⟨(fun t ht => by cases ht), (fun t ht => by cases ht), (fun n t h => by simp at h)⟩
theorem DrT.snoc {ks : List Kp2} {T : List Tpl} (h : DrT ks T) {t : Tpl} (hc : VCs holdK ks t.1) (hf : t.2.length ≤ 2) (hp : ∀ p ∈ t.2, ∃ (k : Nat) (u : Tpl), p.1 = k ∧ T[k]? = some u ∧ GoodOv ks u p.2) : DrT ks (T ++ [t]) := by
  refine ⟨fun x hx => ?_, fun x hx => ?_, fun n x hx p hpx => ?_⟩
  · rcases List.mem_append.1 hx with hx | hx
    · exact h.comps x hx
    · rw [List.mem_singleton.1 hx]; exact hc
  · rcases List.mem_append.1 hx with hx | hx
    · exact h.few x hx
    · rw [List.mem_singleton.1 hx]; exact hf
  · rcases Nat.lt_or_ge n T.length with hn | hn
    · rw [List.getElem?_append_left hn] at hx
      obtain ⟨k, u, h1, h2, h3, h4⟩ := h.parts n x hx p hpx
      exact ⟨k, u, h1, h2, by rw [List.getElem?_append_left (by omega)]; exact h3, h4⟩
    · have hl := (List.getElem?_eq_some_iff.1 hx).1
      rw [List.length_append] at hl
      have e : n = T.length := by simp at hl; omega
      subst e
      have e2 : t = x := by simpa using hx
      subst e2
      obtain ⟨k, u, h1, h3, h4⟩ := hp p hpx
      have hk := (List.getElem?_eq_some_iff.1 h3).1
      exact ⟨k, u, h1, hk, by rw [List.getElem?_append_left hk]; exact h3, h4⟩
theorem fit_held {d : Kp2} {v : List Int} (h : holdK d v = true) : fitF d.1 d.2 v = (v, 0) := by
  unfold holdK holdsF at h
  simp only [Bool.and_eq_true, decide_eq_true_eq] at h
  exact Prod.ext h.2 h.1
theorem pcompF_ok {ks : List Kp2} : ∀ (l : List (Int × List Int)) (pr : Option Int), VCs holdK ks l → (∀ p, pr = some p → ∀ c ∈ l, p < c.1) → pcompF ks pr l = 0
  | [], _, _, _ => rfl
  | x :: r, pr, h, hp => by
    rw [pcompF_cons]
    obtain ⟨k, d, h1, h2, h3⟩ := h.ok x (List.mem_cons_self ..)
    have hk := (List.getElem?_eq_some_iff.1 h2).1
    rw [if_neg (by omega), if_neg ?_]
    · rw [h1, Int.toNat_natCast, h2]
      dsimp only
      rw [fit_held h3]
      simp only [ne_eq, not_true_eq_false, if_false]
      refine pcompF_ok r _ ⟨(List.pairwise_cons.1 h.sorted).2, fun c hc => h.ok c (List.mem_cons_of_mem _ hc)⟩ fun p hpe c hc => ?_
      injection hpe with hpe
      rw [← hpe, ← h1]
      exact (List.pairwise_cons.1 h.sorted).1 c hc
    · cases pr with
      | none => simp
      | some p =>
        have := hp p rfl x (List.mem_cons_self ..)
        simp; omega
theorem good_zero {ks : List Kp2} {u : Tpl} {os : Osv} (h : GoodOv ks u os) (rest : List Blt) : (oversF ks os (([], u.1) :: rest)).1 = 0 ∧ (oversF ks os (([], u.1) :: rest)).2.length = rest.length + 1 := by
  rcases h with rfl | ⟨k, V, v, r, d, rfl, hu1, hv, hk, hh⟩
  · exact ⟨rfl, rfl⟩
  · have hc : ovCode ks (([], u.1) :: rest) [] (k : Int) 0 V = 0 := by
      unfold ovCode
      rw [List.find?_cons_of_pos (by simp)]
      dsimp only
      rw [hu1, List.find?_cons_of_pos (by simp)]
      dsimp only
      have hvl : 0 < v.length := List.length_pos_iff.2 hv
      rw [if_neg (by omega)]
      unfold fitV
      rw [Int.toNat_natCast, hk]
      dsimp only
      rw [show (0 : Int).toNat = 0 from rfl, fit_held hh]
      simp
    rw [oversF, if_neg (by show ¬ ovCode ks (([], u.1) :: rest) [] (k : Int) 0 V ≠ 0; rw [hc]; simp), oversF]
    refine ⟨rfl, ?_⟩
    show (ovSet _ _ _ _ _).length = _
    unfold ovSet
    rw [modF_length, List.length_cons]
theorem good_len {ks : List Kp2} {u : Tpl} {os : Osv} (h : GoodOv ks u os) : os.length ≤ 1 := by
  rcases h with rfl | ⟨k, V, v, r, d, rfl, _⟩
  · exact Nat.zero_le _
  · exact Nat.le_refl _
theorem subL_len {build : Int → Osv → Int × List Blt} {m : Nat} : ∀ (ps : List (Int × Osv)) (i : Nat), (∀ p ∈ ps, (build p.1 p.2).2.length ≤ m) → (subL build i ps).length ≤ ps.length * m
  | [], _, _ => Nat.zero_le _
  | p :: r, i, h => by
    rw [subL, List.length_append, List.length_map, List.length_cons, Nat.succ_mul]
    have := h p (List.mem_cons_self ..)
    have := subL_len r (i + 1) (fun q hq => h q (List.mem_cons_of_mem _ hq))
    omega
theorem two_pow_mono {a b : Nat} (h : a ≤ b) : 2 ^ a ≤ 2 ^ b := Nat.pow_le_pow_right (by decide) h
/-- A drawn template is built. -/
theorem DrT.build {ks : List Kp2} {T : List Tpl} (h : DrT ks T) (h4 : T.length ≤ 4) : ∀ (n d : Nat) (t : Tpl) (os : Osv), n < d → T[n]? = some t → GoodOv ks t os → (buildF ks T d n os).1 = 0 ∧ (buildF ks T d n os).2.length + 1 ≤ 2 ^ (n + 1) ∧ (os = [] → buildF ks T d n os = (0, ([], t.1) :: subL (buildF ks T (d - 1)) 0 t.2)) := by
  intro n
  induction n using Nat.strongRecOn with
  | _ n ih =>
    intro d t os hd hn ho
    obtain ⟨e, rfl⟩ : ∃ e, d = e + 1 := ⟨d - 1, by omega⟩
    have htm := List.mem_of_getElem? hn
    have hnT := (List.getElem?_eq_some_iff.1 hn).1
    have hi : ∀ p ∈ t.2, (buildF ks T e p.1 p.2).1 = 0 ∧ (buildF ks T e p.1 p.2).2.length ≤ 2 ^ n - 1 := fun p hp => by
      obtain ⟨k, u, h1, h2, h3, h5⟩ := h.parts n t hn p hp
      rw [h1]
      obtain ⟨a, b, _⟩ := ih k h2 e u p.2 (by omega) h3 h5
      have := two_pow_mono (show k + 1 ≤ n by omega)
      exact ⟨a, by omega⟩
    have hsl := subL_len t.2 0 (fun p hp => (hi p hp).2)
    have hfew := h.few t htm
    have hp1 : 1 ≤ 2 ^ n := Nat.one_le_two_pow
    have hp3 : 2 ^ n ≤ 2 ^ 3 := two_pow_mono (show n ≤ 3 by omega)
    have hps : 2 ^ (n + 1) = 2 * 2 ^ n := by rw [Nat.pow_succ, Nat.mul_comm]
    have hmul : t.2.length * (2 ^ n - 1) ≤ 2 * (2 ^ n - 1) := Nat.mul_le_mul_right _ hfew
    have hpf := partsF_ok (build := buildF ks T e) t.2 0 [([], t.1)] (fun p hp => (hi p hp).1) (by simp; omega)
    have hu : buildF ks T (e + 1) n os = oversF ks os (([], t.1) :: subL (buildF ks T e) 0 t.2) := by
      rw [buildF, if_neg (by have := good_len ho; omega), Int.toNat_natCast, hn]
      dsimp only
      rw [hpf]
      simp
    obtain ⟨z1, z2⟩ := good_zero ho (subL (buildF ks T e) 0 t.2)
    rw [hu]
    refine ⟨z1, by omega, fun hos => by rw [hos]; rfl⟩
end Go.Proofs.Ytnidcmhfbkdioaa
