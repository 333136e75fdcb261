/-
  The delay, plain: what Note does, and what the reference says. No condition.
-/
import Derived.Test.YtnidcmhfbkdioaaKit
namespace Go.Proofs.Ytnidcmhfbkdioaa
open Go.RowKit

def clampN (x : Int) : Int := min (max x (-20)) 20
def srt (l : List Int) : List Int := l.mergeSort fun x y => decide (x ≤ y)
theorem srt_length (l : List Int) : (srt l).length = l.length := by unfold srt; exact List.length_mergeSort _
def medF (l : List Int) : Int := (srt l).getD ((l.length - 1) / 2) 0
def last9 (l : List Int) : List Int := l.drop (l.length - 9)
theorem last9_length (l : List Int) : (last9 l).length = min l.length 9 := by unfold last9; rw [List.length_drop]; omega
theorem last9_step (l : List Int) (x : Int) : last9 (last9 l ++ [x]) = last9 (l ++ [x]) := by
  unfold last9
  simp only [List.length_append, List.length_drop, List.length_singleton]
  rw [List.drop_append, List.drop_append, List.drop_drop]
  congr 1
  · congr 1; omega
  · congr 1; simp only [List.length_drop]; omega
/-- now, last, calm behind a note. -/
def noteF (low high now : Int) (last : List Int) (calm : Nat) (late : Int) : Int × List Int × Nat :=
  if 0 < late then (min (now + min late 20) high, [], 0)
  else if calm + 1 < 8 ∨ 0 ≤ medF (last9 (last ++ [clampN late])) then (now, last9 (last ++ [clampN late]), calm + 1)
  else (max (now - 1) low, [], 0)
/-- The reference. -/
def refF (low high now : Int) (l : List Int) (late : Int) : Int × List Int :=
  if 0 < clampN late then (min (now + clampN late) high, [])
  else if 8 ≤ (l ++ [clampN late]).length ∧ medF (last9 (l ++ [clampN late])) < 0 then (max (now - 1) low, []) else (now, l ++ [clampN late])
theorem clamp_pos (x : Int) : 0 < clampN x ↔ 0 < x := by unfold clampN; omega
theorem clamp_eq {x : Int} (h : 0 < x) : clampN x = min x 20 := by unfold clampN; omega
theorem note_ref (low high now : Int) (l : List Int) (late : Int) :
    noteF low high now (last9 l) l.length late = ((refF low high now l late).1, last9 (refF low high now l late).2, (refF low high now l late).2.length) := by
  unfold noteF refF
  rw [last9_step]
  by_cases h : 0 < late
  · rw [if_pos h, if_pos ((clamp_pos late).2 h), clamp_eq h]; rfl
  · rw [if_neg h, if_neg (fun h' => h ((clamp_pos late).1 h'))]
    simp only [List.length_append, List.length_singleton]
    by_cases h2 : l.length + 1 < 8 ∨ 0 ≤ medF (last9 (l ++ [clampN late]))
    · rw [if_pos h2, if_neg (by omega)]; simp
    · rw [if_neg h2, if_pos (by omega)]; rfl
theorem note_bd {low high now : Int} {last : List Int} {calm : Nat} (late : Int) (h1 : low ≤ now) (h2 : now ≤ high) : low ≤ (noteF low high now last calm late).1 ∧ (noteF low high now last calm late).1 ≤ high := by
  unfold noteF
  split
  · dsimp only; omega
  · split <;> dsimp only <;> omega
theorem note_last {low high now : Int} {last : List Int} {calm : Nat} (late : Int) (h : last.length ≤ 9) : (noteF low high now last calm late).2.1.length ≤ 9 := by
  unfold noteF
  split
  · simp
  · split
    · dsimp only; rw [last9_length]; omega
    · simp
theorem note_calm (low high now : Int) (last : List Int) (calm : Nat) (late : Int) : (noteF low high now last calm late).2.2 ≤ calm + 1 := by
  unfold noteF
  split
  · simp
  · split <;> simp
theorem note_rise {low high now : Int} {last : List Int} {calm : Nat} {late : Int} (h : 0 < late) : (noteF low high now last calm late).1 = min (now + min late 20) high := by
  unfold noteF; rw [if_pos h]
theorem note_fall {low high now : Int} {last : List Int} {calm : Nat} {late : Int} (h : ¬ 0 < late) (hl : low ≤ now) : (noteF low high now last calm late).1 ≤ now ∧ now - 1 ≤ (noteF low high now last calm late).1 := by
  unfold noteF; rw [if_neg h]
  split <;> dsimp only <;> omega
theorem note_fell {low high now : Int} {last : List Int} {calm : Nat} {late : Int} (h : ¬ 0 < late) (hf : (noteF low high now last calm late).1 < now) : 8 ≤ calm + 1 ∧ (noteF low high now last calm late).2.2 = 0 := by
  unfold noteF at hf ⊢; rw [if_neg h] at hf ⊢
  split at hf
  · simp at hf
  · rename_i h2
    rw [if_neg h2]
    exact ⟨by omega, rfl⟩
end Go.Proofs.Ytnidcmhfbkdioaa
