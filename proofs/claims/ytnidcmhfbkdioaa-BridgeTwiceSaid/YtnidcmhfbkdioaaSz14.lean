/-
  Valid worlds are small; entities beside a row of numbers that grows. Conditions: none.
-/
import Derived.Test.YtnidcmhfbkdioaaSz13
namespace Go.Proofs.Ytnidcmhfbkdioaa
open Go.RowKit
set_option maxRecDepth 100000
theorem chk_one {r : List Kp2} : ∀ {seen : List Kp2}, chkF seen r = 0 → ∀ k ∈ r, oneF k.1 k.2 = 0 := by
  induction r with
  | nil => intro _ _ k hk; cases hk
  | cons a r ih =>
    intro seen h k hk
    rw [chkF_at] at h
    by_cases h0 : oneF a.1 a.2 ≠ 0
    · rw [if_pos h0] at h; exact absurd h h0
    · rw [if_neg h0] at h
      split at h
      · cases h
      · rcases List.mem_cons.1 hk with rfl | hk
        · omega
        · exact ih h k hk
theorem check_len {l : List Kp2} (h : checkF l = 0) : l.length ≤ 16 ∧ ∀ k ∈ l, oneF k.1 k.2 = 0 := by
  unfold checkF at h
  split at h
  · cases h
  · exact ⟨by omega, chk_one h⟩
theorem holdK_small {d : Kp2} {v : List Int} (h : holdK d v = true) : v.length ≤ 8 := by
  obtain ⟨h1, h2, _⟩ := holdK_iff.1 h
  rw [h2]; exact oneF_len h1
theorem VCs.len_le {ks : List Kp2} {l : List Cv} (h : VCs holdK ks l) : l.length ≤ ks.length := by
  rw [← h.again]
  exact flat_len _ _ fun n => by cases findC l n <;> simp [optC]
theorem small_of {w : Wv Kp2} (h0 : checkF w.ks = 0) (h : VW holdK w) : SmallV w := by
  obtain ⟨h1, h2⟩ := check_len h0
  have hm := h.many
  have hl := h.its_len
  refine ⟨by omega, fun k hk => by have := oneF_len (h2 k hk); omega, by omega, by omega, fun it hit => ?_, fun it hit c hc => ?_⟩
  · have := ((h.ok it hit).2.2).len_le; omega
  · obtain ⟨k, d, _, _, e⟩ := (h.ok it hit).2.2.ok c hc
    have := holdK_small e
    omega
/-- No values of the components lie in block g. -/
def NoB (g : Option Nat) (l : List Cm) : Prop := ∀ z ∈ l, 0 < z.n → ∀ b o, z.A = some ⟨b, o, none⟩ → some b ≠ g
theorem NoB.of_fr {h B : Nat} {l : List Cm} {g : Option Nat} (H : Fr h B l) (hg : ∀ q, g = some q → B ≤ q ∧ q < h) : NoB g l := fun z hz hn b o hA e => by
  obtain ⟨h1, h2⟩ := hg b e.symm
  rcases H z hz hn b o hA with h3 | h3 <;> omega
theorem NoB.grown {w : World} {B : Nat} {it : It} {g g' : Option Nat} (h : ItY w B it) (hn : NoB g it.cms) (hg : g' = g ∨ g' = some w.heap.size) : NoB g' it.cms := fun z hz hzn b o hA => by
  rcases hg with rfl | rfl
  · exact hn z hz hzn b o hA
  · obtain ⟨b', o', hA', hlt, _⟩ := (h.cs.ok z hz).rd.2 hzn
    rw [hA] at hA'
    injection hA' with hA'
    injection hA' with h1
    intro e
    injection e with e
    omega
theorem ItY.grown3 {w w' : World} {B base n : Nat} {v : Value} {xs : List Value} {it : It} (h : ItY w B it) (ho : w.ownsRow base 3 1 v n xs) (hg : w.grownBy w' v.ownBlock) (hB : B ≤ base) (hno : NoB v.ownBlock it.cms) : ItY w' B it := by
  have hkx : Kx B [3] w w' := Kx.refl.grown ho hg hB (by simp)
  refine ⟨⟨h.cs.rd.keep hkx (by decide), h.cs.len, h.cs.cap, h.cs.cap2, fun z hz => ?_⟩, h.wf1, h.wf2⟩
  have hz' := h.cs.ok z hz
  refine ⟨⟨hz'.rd.1, fun hn => ?_⟩, hz'.len, hz'.cap, hz'.cap2, hz'.wf⟩
  obtain ⟨b, o, hA, hlt, h3, h4⟩ := hz'.rd.2 hn
  have hne : some b ≠ v.ownBlock := hno z hz hn b o hA
  have hb := hg.block b hlt hne
  exact ⟨b, o, hA, by have := hg.size; omega, h3.imp id fun ⟨cs, hc⟩ => ⟨cs, hb.trans hc⟩, fun j u hu => (World.cell?_of_block (w := w) hb).trans (h4 j u hu)⟩
theorem IsY.of_own {w : World} {B base q c : Nat} {A : Option Addr} {its : List It} (h : w.ownsRow base 147 3 (.slice A q c) q (itCs its)) (hl : q = its.length) (hi : ∀ it ∈ its, ItY w B it) : IsY w B A q c its := by
  have hc := own_cap2 h
  exact ⟨.of_own h, hl, hc.1, hc.2, hi⟩
theorem itCs_snoc (l : List It) (x : It) : itCs (l ++ [x]) = itCs l ++ [.int .i64 x.e, .int .i64 x.g, .slice x.A x.n x.c] := by simp [itCs, It.cs]
/-! ### The merged world slot by slot -/
end Go.Proofs.Ytnidcmhfbkdioaa
