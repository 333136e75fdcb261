/-
  Kinds that are drawn are valid; what their fields are. Conditions: none.
-/
import Derived.Test.YtnidcmhfbkdioaaMw
import Derived.Test.YtnidcmhfbkdioaaWb
namespace Go.Proofs.Ytnidcmhfbkdioaa
open Go.RowKit
set_option maxRecDepth 100000

theorem genX_name (i : Nat) : nameF (genX i) = true := by unfold genX; split <;> (try split) <;> decide
theorem genN_name (i : Nat) : nameF (genN i) = true := by unfold genN; split <;> (try split) <;> (try split) <;> decide
theorem ba_ne {a b : ByteArray} (h : a.data.toList ≠ b.data.toList) : a ≠ b := fun e => h (by rw [e])
theorem genX_ne {i j : Nat} (hi : i < j) (hj : j < 3) : genX i ≠ genX j := by
  have : i = 0 ∨ i = 1 := by omega
  have : j = 1 ∨ j = 2 := by omega
  rcases ‹i = 0 ∨ i = 1› with rfl | rfl <;> rcases ‹j = 1 ∨ j = 2› with rfl | rfl <;> (first | omega | (apply ba_ne; decide))
theorem genN_ne {i j : Nat} (hi : i < j) (hj : j < 4) : genN i ≠ genN j := by
  have : i = 0 ∨ i = 1 ∨ i = 2 := by omega
  have : j = 1 ∨ j = 2 ∨ j = 3 := by omega
  rcases ‹i = 0 ∨ i = 1 ∨ i = 2› with rfl | rfl | rfl <;> rcases ‹j = 1 ∨ j = 2 ∨ j = 3› with rfl | rfl | rfl <;> (first | omega | (apply ba_ne; decide))
theorem GenF.field {f : Fd} {i : Nat} (h : GenF f) (hn : f.nm = genX i) : fieldF f = 0 := by
  unfold fieldF
  have := h.b
  rw [if_pos ⟨by rw [hn]; exact genX_name i, by omega, by omega, by omega, by omega⟩]
theorem GenFs.scan {l : List Fd} (h : GenFs l) (hl : l.length ≤ 3) : scanF [] l = 0 := by
  suffices ∀ (r seen : List Fd), seen ++ r = l → scanF seen r = 0 from this l [] rfl
  intro r
  induction r with
  | nil => intro seen _; rfl
  | cons f r ih =>
    intro seen he
    rw [scanF_at]
    have hf := h.g seen.length f (by rw [← he]; simp)
    rw [if_neg (by rw [hf.2.field hf.1]; simp), if_neg]
    · exact ih _ (by rw [← he]; simp)
    · intro ha
      rw [List.any_eq_true] at ha
      obtain ⟨o, ho, h2⟩ := ha
      have h2 : o.nm = f.nm := by simpa using h2
      obtain ⟨i, hi⟩ := List.mem_iff_getElem?.1 ho
      have hil := (List.getElem?_eq_some_iff.1 hi).1
      have hg := h.g i o (by rw [← he, List.getElem?_append_left hil]; exact hi)
      rw [hg.1, hf.1] at h2
      exact genX_ne hil (by have := congrArg List.length he; simp at this; omega) h2
theorem GenKs.one {l : List Kp2} (h : GenKs l) {i : Nat} {k : Kp2} (hk : l[i]? = some k) : oneF k.1 k.2 = 0 := by
  obtain ⟨h1, h2, h3, h4⟩ := h.g i k hk
  unfold oneF
  rw [if_neg (by rw [h1, genN_name]; simp), if_neg (by omega)]
  exact h4.scan h3
theorem GenKs.check {l : List Kp2} (h : GenKs l) (hl : l.length ≤ 4) : checkF l = 0 := by
  unfold checkF
  rw [if_neg (by omega)]
  suffices ∀ (r seen : List Kp2), seen ++ r = l → chkF seen r = 0 from this l [] rfl
  intro r
  induction r with
  | nil => intro seen _; rfl
  | cons f r ih =>
    intro seen he
    rw [chkF_at]
    have hk : l[seen.length]? = some f := by rw [← he]; simp
    have hf := h.g seen.length f hk
    rw [if_neg (by rw [h.one hk]; simp), if_neg]
    · exact ih _ (by rw [← he]; simp)
    · intro ha
      rw [List.any_eq_true] at ha
      obtain ⟨o, ho, h2⟩ := ha
      have h2 : o = f.1 := by simpa using h2
      obtain ⟨o', ho', rfl⟩ := List.mem_map.1 ho
      obtain ⟨i, hi⟩ := List.mem_iff_getElem?.1 ho'
      have hil := (List.getElem?_eq_some_iff.1 hi).1
      have hg := h.g i o' (by rw [← he, List.getElem?_append_left hil]; exact hi)
      rw [hg.1, hf.1] at h2
      exact genN_ne hil (by have := congrArg List.length he; simp at this; omega) h2
/-- A field of a valid kind. -/
theorem scan_ok {r : List Fd} : ∀ {seen : List Fd}, scanF seen r = 0 → ∀ f ∈ r, fieldF f = 0 := by
  induction r with
  | nil => intro _ _ f hf; cases hf
  | cons a r ih =>
    intro seen h f hf
    rw [scanF_at] at h
    by_cases h0 : fieldF a ≠ 0
    · rw [if_pos h0] at h; exact absurd h h0
    · rw [if_neg h0] at h
      split at h
      · cases h
      · rcases List.mem_cons.1 hf with rfl | hf
        · omega
        · exact ih h f hf
theorem one_ok {nm : ByteArray} {fds : List Fd} (h : oneF nm fds = 0) {f : Fd} (hf : f ∈ fds) : fieldF f = 0 := by
  unfold oneF at h
  split at h
  · cases h
  · split at h
    · cases h
    · exact scan_ok h f hf
theorem near_in {f : Fd} (h : fieldF f = 0) {v : Int} (h1 : f.low ≤ v) (h2 : v < f.low + 2 ^ f.bits.toNat) : nearF f v = v := by
  unfold nearF highF
  rw [if_pos h, if_pos h]
  omega
/-- Values that have been drawn so far. -/
theorem hold_of {d : Kp2} {v : List Int} (h : oneF d.1 d.2 = 0) (hl : v.length = d.2.length) (hv : ∀ i f, d.2[i]? = some f → f.low ≤ v.getD i 0 ∧ v.getD i 0 < f.low + 2 ^ f.bits.toNat) : holdK d v = true :=
  holdK_iff.2 ⟨h, hl, fun i f hf => near_in (one_ok h (List.mem_of_getElem? hf)) (hv i f hf).1 (hv i f hf).2⟩
end Go.Proofs.Ytnidcmhfbkdioaa
