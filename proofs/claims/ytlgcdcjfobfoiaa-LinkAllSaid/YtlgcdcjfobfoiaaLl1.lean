/-
  What the packets of two ends do to each other. Conditions: none.
-/
import Derived.Test.YtlgcdcjfobfoiaaLkh
namespace Go.Proofs.Ytlgcdcjfobfoiaa
open Go.RowKit
set_option maxRecDepth 100000

/-- The first c messages of end k. -/
def msgs (k c : Nat) : List (List Nat) := (List.range c).map fun j => [j, k]
theorem msgs_length (k c : Nat) : (msgs k c).length = c := by simp [msgs]
theorem msgs_succ (k c : Nat) : msgs k (c + 1) = msgs k c ++ [[c, k]] := by simp [msgs, List.range_succ]
theorem msgs_drop_at (k c f i : Nat) (h : f + i < c) : ((msgs k c).drop f)[i]? = some [f + i, k] := by
  rw [List.getElem?_drop]; simp [msgs, h]
theorem msgs_mem {k c : Nat} {m : List Nat} (h : m ∈ msgs k c) : ∃ j, j < c ∧ m = [j, k] := by
  simp only [msgs, List.mem_map, List.mem_range] at h
  obtain ⟨j, h1, h2⟩ := h
  exact ⟨j, h1, h2.symm⟩

theorem dvN_msgs (f next k : Nat) (L : List (List Nat)) (hL : ∀ i, i < L.length → L.getD i [] = [f + i, k]) (hf : f ≤ next) (m : Nat) (hm : m ≤ L.length) :
    dvN f next L m = (max next (f + m), (List.range' next (max next (f + m) - next)).map fun i => [i, k]) := by
  induction m with
  | zero => rw [dvN, Nat.add_zero, Nat.max_eq_left hf, Nat.sub_self]; rfl
  | succ m ih =>
    have ih := ih (by omega)
    rw [dvN, ih]
    by_cases h : next ≤ f + m
    · have e1 : max next (f + m) = f + m := Nat.max_eq_right h
      have e2 : max next (f + (m + 1)) = f + m + 1 := by rw [Nat.max_eq_right (by omega)]; omega
      rw [e1, e2, if_pos rfl, hL m (by omega), show f + m + 1 - next = (f + m - next) + 1 by omega, List.range'_concat, List.map_append]
      simp only [List.map_cons, List.map_nil, Nat.one_mul]
      rw [show next + (f + m - next) = f + m by omega]
    · have e1 : max next (f + m) = next := Nat.max_eq_left (by omega)
      have e2 : max next (f + (m + 1)) = next := Nat.max_eq_left (by omega)
      rw [e1, e2, if_neg (by simp only; omega)]

/-- A packet that comes in. -/
theorem in_pkt {fj nj j cj nx f0 c0 k : Nat} (hx : nx ≤ cj) (hfj : fj ≤ cj) (h0 : f0 ≤ nj) (hcj : cj ≤ 1000) (hnj : nj ≤ 1000) :
    inR fj nj ((msgs j cj).drop fj) [] (pktB nx f0 ((msgs k c0).drop f0)) =
      ((max fj nx, max nj (f0 + min 8 (c0 - f0)), (msgs j cj).drop (max fj nx), (List.range' nj (max nj (f0 + min 8 (c0 - f0)) - nj)).map fun i => [i, k]), 0) := by
  have hop := openR_pkt nx f0 ((msgs k c0).drop f0) (by omega) (by omega) (fun m hm => by
    obtain ⟨i, _, rfl⟩ := msgs_mem (List.mem_of_mem_drop hm)
    simp)
  have hlen : (((msgs k c0).drop f0).take 8).length = min 8 (c0 - f0) := by rw [List.length_take, List.length_drop, msgs_length]
  have hL : ∀ i, i < (((msgs k c0).drop f0).take 8).length → (((msgs k c0).drop f0).take 8).getD i [] = [f0 + i, k] := by
    intro i hi
    rw [hlen] at hi
    rw [List.getD_eq_getElem?_getD, List.getElem?_take, if_pos (by omega), msgs_drop_at k c0 f0 i (by omega)]
    rfl
  rw [inR_ok (by rw [hop]) (by rw [hop, List.length_drop, msgs_length]; simp only; omega), hop]
  simp only
  rw [dvN_msgs f0 nj k _ hL h0 _ (Nat.le_refl _), hlen, List.drop_drop, show fj + (nx - fj) = max fj nx by omega]
  rfl
end Go.Proofs.Ytlgcdcjfobfoiaa
