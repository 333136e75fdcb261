/-
  The network and its reference: what holds between them, as plain lemmas. No condition.
-/
import Derived.Test.YtlgcdcjfobfoiaaNs3
namespace Go.Proofs.Ytlgcdcjfobfoiaa
open Go.RowKit
set_option maxRecDepth 100000

structure NInv (ds : List Dd) (l : List Sn) (fs : List Fl) (s : Int) : Prop where
  srt : Srt fs
  at' : ∀ t, s < t → (at_ t fs).map Fl.key = eqT t (keysOf ds l)
  perm : (fs.map Fl.key).Perm ((keysOf ds l).filter fun k => decide (s < k.1))
  due : ∀ f ∈ fs, s < f.due

theorem NInv.zero (ds : List Dd) : NInv ds [] [] 0 :=
  ⟨List.Pairwise.nil, fun t _ => by simp [at_, keysOf, eqT], by simp [keysOf], fun f hf => by cases hf⟩
theorem at_map (t : Int) (l : List Fl) : (at_ t l).map Fl.key = eqT t (l.map Fl.key) := by
  unfold at_ eqT
  rw [List.filter_map]
  rfl
theorem keyS_gt (ds : List Dd) (i : Nat) (x : Sn) (s : Int) (hx : x.st = s) (hg : ∀ d ∈ ds, ¬ d.bad) : ∀ k ∈ keyS ds i x, s < k.1 := by
  intro k hk
  obtain ⟨t, ht, rfl⟩ := List.mem_map.1 hk
  have := (timesOf_bd ds i x.st hg t ht).1
  show s < t
  omega
theorem NInv.send {ds : List Dd} {l : List Sn} {fs fl fs' : List Fl} {s : Int} {x : Sn} (h : NInv ds l fs s) (hA : Adds fl fs fs') (hk : fl.map Fl.key = keyS ds l.length x) (hx : x.st = s) (hg : ∀ d ∈ ds, ¬ d.bad) : NInv ds (l ++ [x]) fs' s := by
  obtain ⟨h1, h2⟩ := hA.1 h.srt
  refine ⟨h1, fun t ht => ?_, ?_, fun f hf => ?_⟩
  · rw [h2, List.map_append, h.at' t ht, at_map, hk, keysOf_snoc, eqT_append]
  · rw [keysOf_snoc, List.filter_append]
    have h3 : (keyS ds l.length x).filter (fun k => decide (s < k.1)) = keyS ds l.length x := by
      rw [List.filter_eq_self]
      intro k hk
      simpa using keyS_gt ds l.length x s hx hg k hk
    rw [h3]
    have h4 : (fs'.map Fl.key).Perm ((fs ++ fl).map Fl.key) := hA.2.2.map _
    rw [List.map_append, hk] at h4
    exact h4.trans (h.perm.append_right _)
  · rcases List.mem_append.1 (hA.2.2.mem_iff.1 hf) with hf | hf
    · exact h.due f hf
    · have : f.key ∈ keyS ds l.length x := by rw [← hk]; exact List.mem_map_of_mem hf
      exact keyS_gt ds l.length x s hx hg _ this
theorem NInv.step {ds : List Dd} {l : List Sn} {L rest : List Fl} {s : Int} (h : NInv ds l (L ++ rest) s) (hL : ∀ f ∈ L, f.due ≤ s + 1) (hr : ∀ f, rest[0]? = some f → s + 1 < f.due) : NInv ds l rest (s + 1) ∧ L.map Fl.key = eqT (s + 1) (keysOf ds l) := by
  have hrest : ∀ f ∈ rest, s + 1 < f.due := by
    cases rest with
    | nil => intro f hf; cases hf
    | cons a r =>
      intro f hf
      have h1 := hr a rfl
      rcases List.mem_cons.1 hf with rfl | hf
      · exact h1
      · have h2 := (List.pairwise_append.1 h.srt).2.1
        have h3 := (List.pairwise_cons.1 h2).1 f hf
        omega
  have hLd : ∀ f ∈ L, f.due = s + 1 := fun f hf => by
    have h1 := hL f hf
    have h2 := h.due f (List.mem_append_left _ hf)
    omega
  have hat : ∀ t, s + 1 < t → at_ t (L ++ rest) = at_ t rest := fun t ht => by
    rw [at_append]
    have : at_ t L = [] := by
      simp only [at_, List.filter_eq_nil_iff, decide_eq_true_eq]
      intro f hf he
      have := hLd f hf
      omega
    rw [this, List.nil_append]
  refine ⟨⟨(List.pairwise_append.1 h.srt).2.1, fun t ht => ?_, ?_, hrest⟩, ?_⟩
  · rw [← hat t ht]; exact h.at' t (by omega)
  · have h1 := h.perm.filter fun k => decide (s + 1 < k.1)
    rw [List.filter_filter] at h1
    have h2 : ((keysOf ds l).filter fun k => decide (s + 1 < k.1) && decide (s < k.1)) = (keysOf ds l).filter fun k => decide (s + 1 < k.1) := by
      congr 1
      funext k
      by_cases hk : s + 1 < k.1
      · have : s < k.1 := by omega
        simp [hk, this]
      · simp [hk]
    rw [h2] at h1
    have h3 : ((L ++ rest).map Fl.key).filter (fun k => decide (s + 1 < k.1)) = rest.map Fl.key := by
      rw [List.map_append, List.filter_append]
      have e1 : (L.map Fl.key).filter (fun k => decide (s + 1 < k.1)) = [] := by
        rw [List.filter_eq_nil_iff]
        intro k hk
        obtain ⟨f, hf, rfl⟩ := List.mem_map.1 hk
        have := hLd f hf
        show ¬ decide (s + 1 < f.due) = true
        rw [decide_eq_true_eq]; omega
      have e2 : (rest.map Fl.key).filter (fun k => decide (s + 1 < k.1)) = rest.map Fl.key := by
        rw [List.filter_eq_self]
        intro k hk
        obtain ⟨f, hf, rfl⟩ := List.mem_map.1 hk
        have := hrest f hf
        show decide (s + 1 < f.due) = true
        rw [decide_eq_true_eq]; omega
      rw [e1, e2, List.nil_append]
    rw [h3] at h1
    exact h1
  · have h1 := h.at' (s + 1) (by omega)
    have h2 : at_ (s + 1) (L ++ rest) = L := by
      rw [at_append]
      have e1 : at_ (s + 1) L = L := by
        unfold at_
        rw [List.filter_eq_self]
        intro f hf
        simpa using hLd f hf
      have e2 : at_ (s + 1) rest = [] := by
        simp only [at_, List.filter_eq_nil_iff, decide_eq_true_eq]
        intro f hf he
        have := hrest f hf
        omega
      rw [e1, e2, List.append_nil]
    rw [h2] at h1
    exact h1
theorem NInv.count {ds : List Dd} {l : List Sn} {fs : List Fl} {s : Int} (h : NInv ds l fs s) : dueC ds l s = fs.length := by
  have h1 := h.perm.length_eq
  rw [List.length_map] at h1
  unfold dueC
  rw [List.countP_eq_length_filter, ← h1]
end Go.Proofs.Ytlgcdcjfobfoiaa
