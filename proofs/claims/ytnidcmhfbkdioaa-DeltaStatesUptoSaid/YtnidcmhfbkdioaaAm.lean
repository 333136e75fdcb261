/-
  What delta.Back hands back are numbers, at most 65536 of them. No condition but that the list it starts from holds numbers.
-/
import Derived.Test.YtnidcmhfbkdioaaAb
namespace Go.Proofs.Ytnidcmhfbkdioaa
open Go.RowKit
set_option maxRecDepth 100000

theorem i64r_w {l : List Int} (h : i64r l) : AllW l := fun z hz => by
  have h1 := h z hz
  have e : wrap64 z = z := by unfold wrap64; omega
  rw [← e]
  exact wrap64_wf z
theorem backD_w {a : List Int} (d : List Nat) (ha : i64r a) : AllW (backD a d).2 ∧ i64r (backD a d).2 ∧ (backD a d).2.length ≤ 65536 := by
  have h0 : AllW [] ∧ i64r [] ∧ ([] : List Int).length ≤ 65536 := ⟨fun z hz => (List.not_mem_nil hz).elim, fun z hz => (List.not_mem_nil hz).elim, Nat.zero_le _⟩
  have h1 := bodyD_rng d 128 ha
  unfold backD
  split
  · exact h0
  split
  · exact h0
  split
  · exact h0
  split
  · exact h0
  split
  · exact h0
  split
  · exact h0
  split
  · rename_i h
    exact ⟨i64r_w h1, h1, h.2.1⟩
  · exact h0
end Go.Proofs.Ytnidcmhfbkdioaa
