/-
  A region that draws its order, some of whose operations wait for all loads: what the loads read need not hold behind those. Conditions: none, over any program.
-/
import Derived.Test.YtnidcmhfbkdioaaHa
namespace Go.Proofs.Ytnidcmhfbkdioaa
open Go.RowKit
set_option maxRecDepth 100000

section
variable {P : Program} {ops : Array Oper} {Q : Exit → Act → World → Prop} {md : Region.Mode} {S : World → Prop} {late : List Nat}
/-- Whatever order is picked from here on; S holds behind each operation but the late ones. -/
def wpAnyL (P : Program) (md : Region.Mode) (ops : Array Oper) (Q : Exit → Act → World → Prop) (S : World → Prop) (late : List Nat) : Nat → Array Bool → Act → World → Prop
  | 0, listed, a, w => Region.ready md ops listed = [] ∧ Q .normal a w
  | fuel + 1, listed, a, w =>
    (Region.ready md ops listed = [] → Q .normal a w) ∧
    ∀ i ∈ Region.ready md ops listed, wpOp P ops Q i (fun a' w' => (i ∉ late → S w') ∧ wpAnyL P md ops Q S late fuel (listed.setIfInBounds i true) a' w') a w
theorem wpAny_of_L : ∀ (fuel : Nat) (listed : Array Bool) (a : Act) (w : World), wpAnyL P md ops Q S late fuel listed a w → wpAny P md ops Q fuel listed a w
  | 0, _, _, _, h => h
  | fuel + 1, _, _, _, h => ⟨h.1, fun i hi => wpOp_mono (fun a' w' h' => wpAny_of_L fuel _ a' w' h'.2) (h.2 i hi)⟩
/-- Number l waits for number i, by an edge that binds. -/
def Waits (md : Region.Mode) (ops : Array Oper) (l i : Nat) : Prop := ∃ ol, ops[l]? = some ol ∧ ∃ e ∈ ol.after, Region.binds md e = true ∧ e.on = i
theorem Waits.not_ready {l i : Nat} {listed : Array Bool} (h : Waits md ops l i) (hi : listed.getD i true = false) : l ∉ Region.ready md ops listed := fun hj => by
  obtain ⟨ol, hol, e, he, hb, heq⟩ := h
  obtain ⟨_, oj, hoj, hall⟩ := mem_ready.1 hj
  rw [hol] at hoj
  injection hoj with hoj
  subst hoj
  have h1 := hall e he hb
  rw [heq] at h1
  rcases Nat.lt_or_ge i listed.size with h' | h'
  · simp [h'] at hi h1; rw [hi] at h1; cases h1
  · simp [Array.getElem?_eq_none h'] at h1
def WaitsN (md : Region.Mode) (ops : Array Oper) (listed : Array Bool) : Nat → Nat → Nat → Prop
  | 0, l, i => Waits md ops l i
  | n + 1, l, i => Waits md ops l i ∨ ∃ m, Waits md ops l m ∧ listed.getD m true = false ∧ WaitsN md ops listed n m i
theorem WaitsN.not_ready {i : Nat} {listed : Array Bool} (hi : listed.getD i true = false) : ∀ {n l : Nat}, WaitsN md ops listed n l i → l ∉ Region.ready md ops listed
  | 0, _, h => Waits.not_ready h hi
  | _ + 1, _, .inl h => h.not_ready hi
  | _ + 1, _, .inr ⟨_, h, hm, _⟩ => h.not_ready hm
theorem WaitsN.set {i j : Nat} {listed : Array Bool} (hi : listed.getD i true = false) (hj : j ∈ Region.ready md ops listed) : ∀ {n l : Nat}, WaitsN md ops listed n l i → WaitsN md ops (listed.setIfInBounds j true) n l i
  | 0, _, h => h
  | _ + 1, _, .inl h => .inl h
  | _ + 1, _, .inr ⟨m, h, hm, hr⟩ => .inr ⟨m, h, by
      rw [getD_set_ne true (fun e => by subst e; exact hr.not_ready hi hj)]
      exact hm, hr.set hi hj⟩
def waitsN (md : Region.Mode) (ops : Array Oper) (listed : Array Bool) : Nat → Nat → Nat → Bool
  | 0, l, i => waits md ops l i
  | n + 1, l, i => waits md ops l i || (List.range ops.size).any fun m => waits md ops l m && (!(listed.getD m true) && waitsN md ops listed n m i)
theorem wpAnyL_first {i : Nat} {oi : Oper} {v : Value} (hi : ops[i]? = some oi) (hsel : ∀ (j : Nat) (o : Oper) cs b, ops[j]? = some o → o.op ≠ .select cs b)
    (hQ : ∀ c a w, Q (.panic c) (a.put oi.dst v) w → Q (.panic c) a w) :
    ∀ (fuel : Nat) (listed : Array Bool) (a : Act) (w : World), (∀ l ∈ late, WaitsN md ops listed 5 l i) →
      (∀ j oj, ops[j]? = some oj → j ≠ i → listed.getD j true = false → (∀ e ∈ oj.after, Region.binds md e = true → e.on ≠ i) → oi.apart ops oj = true) →
      i ∈ Region.ready md ops listed → YieldsIf P ops S oi v a → S w →
      wpAnyL P md ops Q S late fuel (listed.setIfInBounds i true) (a.put oi.dst v) w → wpAnyL P md ops Q S late (fuel + 1) listed a w := by
  intro fuel
  induction fuel with
  | zero =>
    intro listed a w _ _ hr hy hS H
    refine ⟨fun h => (by rw [h] at hr; cases hr), fun j hj => ?_⟩
    by_cases hji : j = i
    · subst hji; exact hy.wpOp hi hS ⟨fun _ => hS, H⟩
    · have := ready_mono hj hji
      rw [H.1] at this
      cases this
  | succ fuel ih =>
    intro listed a w hwt hfree hr hy hS H
    refine ⟨fun h => (by rw [h] at hr; cases hr), fun j hj => ?_⟩
    by_cases hji : j = i
    · subst hji; exact hy.wpOp hi hS ⟨fun _ => hS, H⟩
    · have h1 := H.2 j (ready_mono hj hji)
      obtain ⟨hjun, oj, hoj, hall⟩ := mem_ready.1 hj
      have hiun := (mem_ready.1 hr).1
      have hnot : ∀ e ∈ oj.after, Region.binds md e = true → e.on ≠ i := fun e he hb heq =>
        Waits.not_ready (md := md) (ops := ops) ⟨oj, hoj, e, he, hb, heq⟩ hiun hj
      have hjl : j ∉ late := fun hm => (hwt j hm).not_ready hiun hj
      have h2 := wpOp_putIf hoj (hfree j oj hoj hji hjun hnot) (fun cs b => hsel i oi cs b hi) (fun cs b => hsel j oj cs b hoj) hQ hy h1
      have hfree' : ∀ k ok, ops[k]? = some ok → k ≠ i → (listed.setIfInBounds j true).getD k true = false →
          (∀ e ∈ ok.after, Region.binds md e = true → e.on ≠ i) → oi.apart ops ok = true := fun k ok hk hki hun hno => by
        refine hfree k ok hk hki ?_ hno
        by_cases hjk : j = k
        · subst hjk; exact hjun
        · rw [getD_set_ne true hjk] at hun; exact hun
      refine wpOp_mono (fun a' w' h3 => ⟨fun _ => h3.2.1 hjl, ih (listed.setIfInBounds j true) a' w' (fun l hl => (hwt l hl).set hiun hj) hfree' (ready_mono hr (Ne.symm hji)) h3.1 (h3.2.1 hjl) ?_⟩) h2
      rw [Array.setIfInBounds_comm _ _ hji]
      exact h3.2.2
theorem waits_spec {l i : Nat} (h : waits md ops l i = true) : Waits md ops l i := by
  unfold waits at h
  rw [Bool.and_eq_true] at h
  obtain ⟨h1, h2⟩ := h
  cases hol : ops[l]? with
  | none => rw [hol] at h2; cases h2
  | some ol =>
    rw [hol] at h2
    have h3 : (ol.after.any fun e => Region.binds md e && e.on == i) = true := h2
    obtain ⟨e, he, h4⟩ := Array.any_eq_true'.1 h3
    rw [Bool.and_eq_true] at h4
    exact ⟨ol, hol, e, he, h4.1, by simpa using h4.2⟩
theorem waitsN_spec {i : Nat} {listed : Array Bool} : ∀ {n l : Nat}, waitsN md ops listed n l i = true → WaitsN md ops listed n l i
  | 0, _, h => waits_spec h
  | n + 1, l, h => by
    unfold waitsN at h
    rw [Bool.or_eq_true] at h
    rcases h with h | h
    · exact .inl (waits_spec h)
    · obtain ⟨m, _, h⟩ := List.any_eq_true.1 h
      simp only [Bool.and_eq_true, Bool.not_eq_true'] at h
      exact .inr ⟨m, waits_spec h.1, h.2.1, waitsN_spec h.2.2⟩
theorem wpAnyL_val {i : Nat} {oi : Oper} {d : Option Tmp} {v : Value} {fuel : Nat} {listed : Array Bool} {a : Act} {w : World} (hi : ops[i]? = some oi) (hd : oi.dst = d)
    (hs : Region.noSelect ops = true) (hf : Region.free md ops listed i = true) (hr : (Region.ready md ops listed).contains i = true) (hwl : (late.all fun l => waitsN md ops listed 5 l i) = true)
    (hQ : ∀ c a w, Q (.panic c) (a.put d v) w → Q (.panic c) a w) (hy : YieldsIf P ops S oi v a) (hS : S w)
    (h : wpAnyL P md ops Q S late fuel (listed.setIfInBounds i true) (a.put d v) w) : wpAnyL P md ops Q S late (fuel + 1) listed a w := by
  subst hd
  rw [List.all_eq_true] at hwl
  exact wpAnyL_first hi (Region.noSelect_spec hs) hQ fuel listed a w (fun l hl => waitsN_spec (hwl l hl)) (Region.free_spec hi hf) (by simpa using hr) hy hS h
theorem wpAnyL_all {R : List Nat} {fuel : Nat} {listed : Array Bool} {a : Act} {w : World} (hr : Region.ready md ops listed = R) (hne : R ≠ [])
    (h : ∀ i ∈ R, wpOp P ops Q i (fun a' w' => (i ∉ late → S w') ∧ wpAnyL P md ops Q S late fuel (listed.setIfInBounds i true) a' w') a w) : wpAnyL P md ops Q S late (fuel + 1) listed a w :=
  ⟨fun h0 => absurd (hr.symm.trans h0) hne, fun i hi => h i (by rw [← hr]; exact hi)⟩
theorem wpOp_L {i : Nat} {oi : Oper} {a : Act} {w : World} {K : Act → World → Prop} (hi : ops[i]? = some oi) (hg : Region.wanted oi (yielded ops a.tmps) = true)
    (h : oi.wp P a w (fun a' w' => S w' ∧ K a' w') Q) : wpOp P ops Q i (fun a' w' => (i ∉ late → S w') ∧ K a' w') a w := by
  unfold wpOp
  simp only [hi, hg, if_true]
  exact .inl (Oper.wp_mono (fun a' w' h => ⟨fun _ => h.1, h.2⟩) h)
theorem wpAnyL_one {i : Nat} {oi : Oper} {fuel : Nat} {listed : Array Bool} {a : Act} {w : World} (hi : ops[i]? = some oi) (hr : Region.ready md ops listed = [i]) (hg : Region.wanted oi (yielded ops a.tmps) = true)
    (h : oi.wp P a w (fun a' w' => S w' ∧ wpAnyL P md ops Q S late fuel (listed.setIfInBounds i true) a' w') Q) : wpAnyL P md ops Q S late (fuel + 1) listed a w :=
  wpAnyL_all hr (by simp) fun j hj => by
    have e : j = i := by simpa using hj
    subst e
    exact wpOp_L hi hg h
theorem wpAnyL_late {i : Nat} {oi : Oper} {fuel : Nat} {listed : Array Bool} {a : Act} {w : World} (hi : ops[i]? = some oi) (hr : Region.ready md ops listed = [i]) (hg : Region.wanted oi (yielded ops a.tmps) = true) (hl : late.contains i = true)
    (h : oi.wp P a w (fun a' w' => wpAnyL P md ops Q S late fuel (listed.setIfInBounds i true) a' w') Q) : wpAnyL P md ops Q S late (fuel + 1) listed a w :=
  wpAnyL_all hr (by simp) fun j hj => by
    have e : j = i := by simpa using hj
    subst e
    unfold wpOp
    simp only [hi, hg, if_true]
    exact .inl (Oper.wp_mono (fun a' w' h => ⟨fun h0 => absurd (by simpa using hl) h0, h⟩) h)
theorem wpAnyL_two {i j : Nat} {oi oj : Oper} {fuel : Nat} {listed : Array Bool} {a : Act} {w : World} (hi : ops[i]? = some oi) (hj : ops[j]? = some oj) (hr : Region.ready md ops listed = [i, j]) (hg : Region.wanted oi (yielded ops a.tmps) = true) (hg' : Region.wanted oj (yielded ops a.tmps) = true)
    (h1 : oi.wp P a w (fun a' w' => S w' ∧ wpAnyL P md ops Q S late fuel (listed.setIfInBounds i true) a' w') Q) (h2 : oj.wp P a w (fun a' w' => S w' ∧ wpAnyL P md ops Q S late fuel (listed.setIfInBounds j true) a' w') Q) : wpAnyL P md ops Q S late (fuel + 1) listed a w :=
  wpAnyL_all hr (by simp) fun k hk => by
    rcases (by simpa using hk : k = i ∨ k = j) with e | e
    · subst e
      exact wpOp_L hi hg h1
    · subst e
      exact wpOp_L hj hg' h2
theorem wpAnyL_done {listed : Array Bool} {a : Act} {w : World} (hr : Region.ready md ops listed = []) (h : Q .normal a w) :
    ∀ fuel, wpAnyL P md ops Q S late fuel listed a w
  | 0 => ⟨hr, h⟩
  | _ + 1 => ⟨fun _ => h, by rw [hr]; simp⟩
theorem wp_region_L {id : Nat} {a : Act} {w : World} (hm : P.follows .mixedOrders = true)
    (h : wpAnyL P .any ops Q S late ops.size (Array.replicate ops.size false) a w.drew) : (Code.region id ops true).wp P Q a w :=
  wp_region_any hm (wpAny_of_L _ _ _ _ h)
end
end Go.Proofs.Ytnidcmhfbkdioaa
