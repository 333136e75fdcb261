/-
  Checking worlds as data; what a valid world is. Conditions: none.
-/
import Derived.Test.YtnidcmhfbkdioaaMa
namespace Go.Proofs.Ytnidcmhfbkdioaa
open Go.RowKit
set_option maxRecDepth 100000

def holdK (d : Kp2) (v : List Int) : Bool := holdsF d.1 d.2 v
def itOne (ks : List Kp2) (gens : List Int) (last : Int) (it : Iv) : Bool :=
  decide (last < it.1.1) && (decide (gens[it.1.1.toNat]? = some it.1.2) && (decide (it.1.2 ≠ 1073741824) && heldF ks (-1) it.2))
def itChk (ks : List Kp2) (gens : List Int) : Int → List Iv → Bool
  | _, [] => true
  | last, it :: r => itOne ks gens last it && itChk ks gens it.1.1 r
def genOk (g : Int) : Bool := decide (0 ≤ g) && decide (g ≤ 1073741824)
def wcheckF (w : Wv Kp2) : Int :=
  if checkF w.ks ≠ 0 then checkF w.ks else if 256 < w.gens.length ∨ w.gens.length < w.its.length then 2 else
  if w.gens.all genOk = true then (if itChk w.ks w.gens (-1) w.its = true then 0 else 3) else 3

theorem heldF_iff {ks : List Kp2} {l : List Cv} {last : Int} (h0 : -1 ≤ last) : heldF ks last l = true ↔ (∀ c ∈ l, last < c.1) ∧ VCs holdK ks l := by
  induction l generalizing last with
  | nil => exact ⟨fun _ => ⟨(fun c hc => by cases hc), ⟨List.Pairwise.nil, (fun c hc => by cases hc)⟩⟩, fun _ => rfl⟩
  | cons x l ih =>
    have e : heldF ks last (x :: l) = (heldOne ks last x && heldF ks x.1 l) := rfl
    rw [e, Bool.and_eq_true]
    constructor
    · rintro ⟨h1, h2⟩
      unfold heldOne at h1
      rw [Bool.and_eq_true] at h1
      have hlt : last < x.1 := by simpa using h1.1
      obtain ⟨h3, h4⟩ := (ih (by omega)).1 h2
      obtain ⟨k, hk⟩ : ∃ k : Nat, x.1 = k := ⟨x.1.toNat, by omega⟩
      have hx : ∃ d, ks[k]? = some d ∧ holdK d x.2 = true := by
        have h5 := h1.2
        rw [hk, Int.toNat_natCast] at h5
        cases hd : ks[k]? with
        | none => rw [hd] at h5; cases h5
        | some d => rw [hd] at h5; exact ⟨d, rfl, h5⟩
      refine ⟨fun c hc => ?_, ⟨List.Pairwise.cons h3 h4.sorted, fun c hc => ?_⟩⟩
      · rcases List.mem_cons.1 hc with rfl | hc
        · exact hlt
        · have := h3 c hc; omega
      · rcases List.mem_cons.1 hc with rfl | hc
        · obtain ⟨d, h6, h7⟩ := hx
          exact ⟨k, d, hk, h6, h7⟩
        · exact h4.ok c hc
    · rintro ⟨h1, h2⟩
      have hlt := h1 x (List.mem_cons_self ..)
      obtain ⟨k, d, hk, h6, h7⟩ := h2.ok x (List.mem_cons_self ..)
      obtain ⟨h8, h9⟩ := List.pairwise_cons.1 h2.sorted
      refine ⟨?_, (ih (by omega)).2 ⟨h8, ⟨h9, fun c hc => h2.ok c (List.mem_cons_of_mem _ hc)⟩⟩⟩
      unfold heldOne
      rw [decide_eq_true hlt, hk, Int.toNat_natCast, h6]
      exact h7
theorem itChk_iff {ks : List Kp2} {gens : List Int} {l : List Iv} {last : Int} (h0 : -1 ≤ last) :
    itChk ks gens last l = true ↔ (∀ c ∈ l, last < c.1.1) ∧ (l.Pairwise fun a b => a.1.1 < b.1.1) ∧ ∀ it ∈ l, (∃ n : Nat, it.1.1 = n ∧ gens[n]? = some it.1.2) ∧ it.1.2 ≠ 1073741824 ∧ VCs holdK ks it.2 := by
  induction l generalizing last with
  | nil => exact ⟨fun _ => ⟨(fun c hc => by cases hc), List.Pairwise.nil, (fun c hc => by cases hc)⟩, fun _ => rfl⟩
  | cons x l ih =>
    have e : itChk ks gens last (x :: l) = (itOne ks gens last x && itChk ks gens x.1.1 l) := rfl
    have e2 : itOne ks gens last x = true ↔ last < x.1.1 ∧ gens[x.1.1.toNat]? = some x.1.2 ∧ x.1.2 ≠ 1073741824 ∧ heldF ks (-1) x.2 = true := by
      unfold itOne
      simp only [Bool.and_eq_true, decide_eq_true_eq]
    rw [e, Bool.and_eq_true, e2]
    constructor
    · rintro ⟨⟨hlt, hg, hm, hh⟩, h2⟩
      obtain ⟨h3, h4, h5⟩ := (ih (by omega)).1 h2
      obtain ⟨k, hk⟩ : ∃ k : Nat, x.1.1 = k := ⟨x.1.1.toNat, by omega⟩
      rw [hk, Int.toNat_natCast] at hg
      refine ⟨fun c hc => ?_, List.Pairwise.cons h3 h4, fun c hc => ?_⟩
      · rcases List.mem_cons.1 hc with rfl | hc
        · exact hlt
        · have := h3 c hc; omega
      · rcases List.mem_cons.1 hc with rfl | hc
        · exact ⟨⟨k, hk, hg⟩, hm, ((heldF_iff (by omega)).1 hh).2⟩
        · exact h5 c hc
    · rintro ⟨h1, h2, h3⟩
      have hlt := h1 x (List.mem_cons_self ..)
      obtain ⟨⟨k, hk, hg⟩, hm, hc⟩ := h3 x (List.mem_cons_self ..)
      obtain ⟨h8, h9⟩ := List.pairwise_cons.1 h2
      refine ⟨⟨hlt, by rw [hk, Int.toNat_natCast]; exact hg, hm, (heldF_iff (by omega)).2 ⟨fun c hcc => ?_, hc⟩⟩, (ih (by omega)).2 ⟨h8, h9, fun c hc => h3 c (List.mem_cons_of_mem _ hc)⟩⟩
      obtain ⟨j, _, e3, _⟩ := hc.ok c hcc
      omega
theorem flat_len {α : Type} (f : Nat → List α) (K : Nat) (h : ∀ n, (f n).length ≤ 1) : ((List.range K).flatMap f).length ≤ K := by
  induction K with
  | zero => simp
  | succ K ih =>
    rw [List.range_succ, List.flatMap_append, List.length_append]
    have := h K
    simp only [List.flatMap_cons, List.flatMap_nil, List.append_nil]
    omega
theorem VW.its_len {κ : Type} {hold : κ → List Int → Bool} {w : Wv κ} (h : VW hold w) : w.its.length ≤ w.gens.length := by
  have e := rebuild (fun c : Iv => c.1.1) w.gens.length w.its h.sorted h.key
  rw [← e]
  exact flat_len _ _ fun n => by cases (w.its.find? fun c => decide (c.1.1 = (n : Int))) <;> simp
theorem vw_of {w : Wv Kp2} (h : wcheckF w = 0) : checkF w.ks = 0 ∧ VW holdK w := by
  unfold wcheckF at h
  by_cases h0 : checkF w.ks ≠ 0
  · rw [if_pos h0] at h; exact absurd h h0
  · rw [if_neg h0] at h
    by_cases h1 : 256 < w.gens.length ∨ w.gens.length < w.its.length
    · rw [if_pos h1] at h; cases h
    · rw [if_neg h1] at h
      by_cases h2 : w.gens.all genOk = true
      · rw [if_pos h2] at h
        by_cases h3 : itChk w.ks w.gens (-1) w.its = true
        · obtain ⟨_, a, b⟩ := (itChk_iff (by omega)).1 h3
          refine ⟨by omega, ⟨by omega, fun g hg => ?_, a, b⟩⟩
          have := List.all_eq_true.1 h2 g hg
          unfold genOk at this
          simp only [Bool.and_eq_true, decide_eq_true_eq] at this
          exact this
        · rw [if_neg h3] at h; cases h
      · rw [if_neg h2] at h; cases h
theorem check_of {w : Wv Kp2} (h0 : checkF w.ks = 0) (h : VW holdK w) : wcheckF w = 0 := by
  unfold wcheckF
  have hl := h.its_len
  have hm := h.many
  rw [if_neg (by omega), if_neg (by omega), if_pos (List.all_eq_true.2 fun g hg => by
    have := h.gens g hg
    unfold genOk
    simp only [Bool.and_eq_true, decide_eq_true_eq]; exact this), if_pos ((itChk_iff (by omega)).2 ⟨fun c hc => by
      obtain ⟨⟨n, e, _⟩, _⟩ := h.ok c hc
      omega, h.sorted, h.ok⟩)]
theorem holdK_len : Len holdK := ⟨fun d x y h1 h2 => by
  unfold holdK holdsF at h1 h2
  simp only [Bool.and_eq_true, decide_eq_true_eq] at h1 h2
  have key : ∀ z : List Int, (fitF d.1 d.2 z).2 = 0 → z.length = d.2.length := fun z hz => by
    unfold fitF at hz
    split at hz
    · rename_i h; exact absurd hz h
    · split at hz
      · cases hz
      · rename_i h; omega
  rw [key x h1.1, key y h2.1]⟩
theorem holdK_iff {d : Kp2} {v : List Int} : holdK d v = true ↔ oneF d.1 d.2 = 0 ∧ v.length = d.2.length ∧ ∀ i f, d.2[i]? = some f → nearF f (v.getD i 0) = v.getD i 0 := by
  unfold holdK holdsF
  simp only [Bool.and_eq_true, decide_eq_true_eq]
  unfold fitF
  by_cases h0 : oneF d.1 d.2 = 0
  · rw [if_neg (by simp [h0])]
    by_cases h1 : v.length = d.2.length
    · rw [if_neg (by simp [h1])]
      constructor
      · rintro ⟨_, h⟩
        refine ⟨h0, h1, fun i f hf => ?_⟩
        have hi : i < d.2.length := (List.getElem?_eq_some_iff.1 hf).1
        have hv : v[i]? = some (v.getD i 0) := by simp [List.getD, List.getElem?_eq_getElem (show i < v.length by omega)]
        have := zipF_at hf hv
        rw [show zipF d.2 v = v from h, hv] at this
        injection this with this
        exact this.symm
      · rintro ⟨_, _, h⟩
        refine ⟨rfl, List.ext_getElem? fun i => ?_⟩
        by_cases hi : i < d.2.length
        · have hf : d.2[i]? = some d.2[i] := List.getElem?_eq_getElem hi
          have hv : v[i]? = some (v.getD i 0) := by simp [List.getD, List.getElem?_eq_getElem (show i < v.length by omega)]
          show (zipF d.2 v)[i]? = _
          rw [zipF_at hf hv, h i _ hf, hv]
        · rw [List.getElem?_eq_none (by unfold zipF; rw [List.length_zipWith]; omega), List.getElem?_eq_none (by omega)]
    · rw [if_pos h1]
      exact ⟨(fun h => by cases h.1), fun h => absurd h.2.1 h1⟩
  · rw [if_pos h0]
    exact ⟨fun h => absurd h.1 h0, fun h => absurd h.1 h0⟩
theorem holdK_mix : Mix holdK := ⟨fun d x y z h1 h2 h3 h4 => by
  rw [holdK_iff] at h1 h2 ⊢
  refine ⟨h1.1, by rw [h3]; exact h1.2.1, fun i f hf => ?_⟩
  have hi : i < d.2.length := (List.getElem?_eq_some_iff.1 hf).1
  rcases h4 i (by have := h1.2.1; omega) with e | e
  · rw [e]; exact h1.2.2 i f hf
  · rw [e]; exact h2.2.2 i f hf⟩
end Go.Proofs.Ytnidcmhfbkdioaa
