/-
  Plain: how long builds and their paths are; entities built before and in a call, side by side; the contract of prefab.build as it is to be proved. Conditions: none.
-/
import Derived.Test.YtnidcmhfbkdioaaPi
namespace Go.Proofs.Ytnidcmhfbkdioaa
open Go.RowKit
set_option maxRecDepth 100000

theorem modF_mem {α : Type} {p : α → Bool} {f : α → α} {l : List α} {y : α} (h : y ∈ modF p f l) : ∃ x ∈ l, y = x ∨ y = f x := by
  induction l with
  | nil => cases h
  | cons a r ih =>
    unfold modF at h
    split at h
    · rcases List.mem_cons.1 h with h | h
      · exact ⟨a, List.mem_cons_self .., .inr h⟩
      · exact ⟨y, List.mem_cons_of_mem _ h, .inl rfl⟩
    · rcases List.mem_cons.1 h with h | h
      · exact ⟨a, List.mem_cons_self .., .inl h⟩
      · obtain ⟨x, h1, h2⟩ := ih h
        exact ⟨x, List.mem_cons_of_mem _ h1, h2⟩
theorem oversF_len (ks : List Kp2) : ∀ (os : List (List Int × Int × Int × Int)) (out : List Blt), (oversF ks os out).2.length ≤ out.length
  | [], _ => Nat.le_refl _
  | o :: r, out => by
    rw [oversF]
    split
    · exact Nat.zero_le _
    · refine Nat.le_trans (oversF_len ks r _) ?_
      unfold ovSet
      rw [modF_length]; exact Nat.le_refl _
theorem oversF_path (ks : List Kp2) (d : Nat) : ∀ (os : List (List Int × Int × Int × Int)) (out : List Blt), (∀ b ∈ out, b.1.length ≤ d) → ∀ b ∈ (oversF ks os out).2, b.1.length ≤ d
  | [], _, h => h
  | o :: r, out, h => by
    rw [oversF]
    split
    · intro b hb; cases hb
    · refine oversF_path ks d r _ fun b hb => ?_
      unfold ovSet at hb
      obtain ⟨x, hx, e⟩ := modF_mem hb
      rcases e with e | e
      · rw [e]; exact h x hx
      · rw [e]; exact h x hx
theorem partsF_len (build : Int → List (List Int × Int × Int × Int) → Int × List Blt) : ∀ (ps : List (Int × List (List Int × Int × Int × Int))) (i : Nat) (out : List Blt), out.length ≤ 200 → (partsF build i ps out).2.length ≤ 200
  | [], _, _, h => h
  | p :: r, i, out, h => by
    rw [partsF]
    split
    · exact Nat.zero_le _
    · split
      · exact Nat.zero_le _
      · rename_i h2
        exact partsF_len build r _ _ (by omega)
theorem partsF_path {build : Int → List (List Int × Int × Int × Int) → Int × List Blt} {d : Nat} (hb : ∀ n os, ∀ b ∈ (build n os).2, b.1.length ≤ d) : ∀ (ps : List (Int × List (List Int × Int × Int × Int))) (i : Nat) (out : List Blt), (∀ b ∈ out, b.1.length ≤ d + 1) → ∀ b ∈ (partsF build i ps out).2, b.1.length ≤ d + 1
  | [], _, _, h => h
  | p :: r, i, out, h => by
    rw [partsF]
    split
    · intro b hb; cases hb
    · split
      · intro b hb; cases hb
      · refine partsF_path hb r _ _ fun b h3 => ?_
        rcases List.mem_append.1 h3 with h3 | h3
        · exact h b h3
        · obtain ⟨c, hc, rfl⟩ := List.mem_map.1 h3
          have := hb p.1 p.2 c hc
          show (c.1.length + 1) ≤ d + 1
          omega
theorem buildF_both (ks : List Kp2) (ts : List Tpl) : ∀ (d : Nat) (n : Int) (os : List (List Int × Int × Int × Int)), (buildF ks ts d n os).2.length ≤ 200 ∧ ∀ b ∈ (buildF ks ts d n os).2, b.1.length ≤ d
  | 0, n, os => ⟨Nat.zero_le _, fun b hb => by cases hb⟩
  | d + 1, n, os => by
    unfold buildF
    split
    · exact ⟨Nat.zero_le _, fun b hb => by cases hb⟩
    · split
      · exact ⟨Nat.zero_le _, fun b hb => by cases hb⟩
      · rename_i t _
        have h1 := partsF_len (buildF ks ts d) t.2 0 [([], t.1)] (by simp)
        have h2 := partsF_path (fun n os => (buildF_both ks ts d n os).2) t.2 0 [([], t.1)] (fun b hb => by rw [List.mem_singleton.1 hb]; exact Nat.zero_le _)
        generalize partsF (buildF ks ts d) 0 t.2 [([], t.1)] = Z at *
        obtain ⟨e, out⟩ := Z
        dsimp only at h1 h2 ⊢
        split
        · exact ⟨Nat.zero_le _, fun b hb => by cases hb⟩
        · exact ⟨Nat.le_trans (oversF_len ks os out) h1, oversF_path ks (d + 1) os out h2⟩
theorem BtY.lower {w : World} {base base' : Nat} {x : Bt} (h : BtY w base x) (hb : base' ≤ base) : BtY w base' x := ⟨h.rd, h.len, h.cap, h.cap2, h.cs, fun hn => by obtain ⟨b, o, cs, h1, h2, h3⟩ := h.own hn; exact ⟨b, o, cs, h1, by omega, h3⟩⟩
/-- What was built before a call, and what the call built. -/
theorem BsY.app {w w' : World} {base : Nat} {l sub : List Bt} (h : BsY w base l) (hb : Below w.heap.size w w') (hs : BsY w' w.heap.size sub) (hbase : base ≤ w.heap.size) : BsY w' base (l ++ sub) := by
  have hl := h.keep (F := []) (Kx.of_below hb) (by simp) (by simp)
  refine ⟨fun x hx => ?_, fun i j x y hij hx hy hxn hyn b o b' o' h1 h2 => ?_⟩
  · rcases List.mem_append.1 hx with hx | hx
    · exact hl.ok x hx
    · exact (hs.ok x hx).lower hbase
  · have old : ∀ (p : Nat) (z : Bt), p < l.length → (l ++ sub)[p]? = some z → 0 < z.cn → ∀ b o, z.cA = some ⟨b, o, none⟩ → b < w.heap.size := fun p z hp hz hzn b o hA => by
      rw [List.getElem?_append_left hp] at hz
      obtain ⟨b9, o9, cs9, e1, _, e2⟩ := (h.ok z (List.mem_of_getElem? hz)).own hzn
      rw [hA] at e1
      injection e1 with e1
      injection e1 with e1 _
      rw [e1]; exact e2.lt
    have new : ∀ (p : Nat) (z : Bt), l.length ≤ p → (l ++ sub)[p]? = some z → 0 < z.cn → ∀ b o, z.cA = some ⟨b, o, none⟩ → w.heap.size ≤ b := fun p z hp hz hzn b o hA => by
      rw [List.getElem?_append_right hp] at hz
      obtain ⟨b9, o9, cs9, e1, e2, _⟩ := (hs.ok z (List.mem_of_getElem? hz)).own hzn
      rw [hA] at e1
      injection e1 with e1
      injection e1 with e1 _
      rw [e1]; exact e2
    rcases Nat.lt_or_ge i l.length with hi | hi <;> rcases Nat.lt_or_ge j l.length with hj | hj
    · rw [List.getElem?_append_left hi] at hx
      rw [List.getElem?_append_left hj] at hy
      exact h.dis i j x y hij hx hy hxn hyn b o b' o' h1 h2
    · have a1 := old i x hi hx hxn b o h1
      have a2 := new j y hj hy hyn b' o' h2
      omega
    · have a1 := new i x hi hx hxn b o h1
      have a2 := old j y hj hy hyn b' o' h2
      omega
    · rw [List.getElem?_append_right hi] at hx
      rw [List.getElem?_append_right hj] at hy
      exact hs.dis (i - l.length) (j - l.length) x y (by omega) hx hy hxn hyn b o b' o' h1 h2
/-- What prefab.build hands back. -/
def BldP (w : World) (ks : List Kd) (r : Int × List Blt) (e : Ending) (w' : World) : Prop :=
  Below w.heap.size w w' ∧ ((r.1 ≠ 0 ∧ e = .returned (.tuple #[.slice none 0 0, .int .i64 r.1])) ∨ (r.1 = 0 ∧ ∃ (A : Option Addr) (m c : Nat) (l : List Bt), e = .returned (.tuple #[.slice A m c, .int .i64 0]) ∧ Hid (BuI w' w.heap.size ks A m c l ∧ l.map Bt.p = r.2)))
end Go.Proofs.Ytnidcmhfbkdioaa
