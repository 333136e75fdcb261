/-
  Of and mapFault answer alike. Plain Lean.
-/
import Derived.Test.YtnidcmhfbkdioaaKm
namespace Go.Proofs.Ytnidcmhfbkdioaa
open Go.RowKit

theorem bfind_named (ks : List (ByteArray × List Fd)) (nm : ByteArray) (ns : List ByteArray) :
    ((bfindF ks nm ns).2 = if (namedF ks nm ns).2 then 0 else 8) ∧ ((namedF ks nm ns).2 = true → (bfindF ks nm ns).1 = (namedF ks nm ns).1) := by
  unfold bfindF namedF
  rcases findF_range (ks.map (·.1)) nm with h | ⟨i, h, hi⟩
  · simp [h]
  · rw [List.length_map] at hi
    have hni : ¬ ((i : Int) < 0) := by omega
    obtain ⟨k, hk⟩ : ∃ k, ks[i]? = some k := ⟨_, List.getElem?_eq_getElem hi⟩
    simp only [h, if_neg hni, Int.toNat_natCast, hk]
    by_cases he : k.2.map Fd.nm = ns
    · simp [he]
    · simp [he]

theorem of_is_map (ks : List (ByteArray × List Fd)) : ofF ks = mapF ks := by
  have h0 := bfind_named ks sPlace nPlace
  have h1 := bfind_named ks sMotion nMotion
  have h2 := bfind_named ks sShape nShape
  have e0 : spec ks sp0 = namedF ks sPlace nPlace := rfl
  have e1 : spec ks sp1 = namedF ks sMotion nMotion := rfl
  have e2 : spec ks sp2 = namedF ks sShape nShape := rfl
  unfold ofF mapF
  rw [e0, e1, e2]
  generalize bfindF ks sPlace nPlace = p0 at *
  generalize bfindF ks sMotion nMotion = p1 at *
  generalize bfindF ks sShape nShape = p2 at *
  generalize namedF ks sPlace nPlace = n0 at *
  generalize namedF ks sMotion nMotion = n1 at *
  generalize namedF ks sShape nShape = n2 at *
  obtain ⟨a0, b0⟩ := p0
  obtain ⟨a1, b1⟩ := p1
  obtain ⟨a2, b2⟩ := p2
  obtain ⟨c0, d0⟩ := n0
  obtain ⟨c1, d1⟩ := n1
  obtain ⟨c2, d2⟩ := n2
  cases d0 <;> cases d1 <;> cases d2 <;> simp_all
end Go.Proofs.Ytnidcmhfbkdioaa
