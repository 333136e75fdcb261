/-
  The reach: what a slice that came in takes, in bytes; a slice of bytes as a list of numbers. No condition.
-/
import Derived.Test.YtlgcdcjfobfoiaaFr2
import Derived.SizedLaws
namespace Go.Proofs.Ytlgcdcjfobfoiaa
open Go.ChangeShapes Go.WideShapes Go.ChangeAt Go.RowKit Go.Deep
set_option maxRecDepth 100000
section
variable {H : Type} {enc : TypeId × Value → H} {P : Program} {w : World} {base : Nat} {spare : Nat → Bool} {held : Bool}
theorem reach_len {ts : List TypeId} {ds : List (DataW H)} {j : Nat} {t e : TypeId} {fuel b : Nat} {A : Option Addr} {n c : Nat} {d : DataW H} {p : List MemPlace} (hsz : (DataW.weightsEach P ts ds).all (· ≤ reachBytes) = true)
    (ht : ts[j]? = some t) (hd : ds[j]? = some d) (hu : P.underlying t = some (.slice e)) (hb : P.bytesOf e = b) (h : DataW.trod enc P w base spare held fuel t [.slice A n c] = some (d, p)) : n * b ≤ 140737488351232 := by
  rcases open_slice hu h with ⟨hcs, _⟩ | ⟨a, len, cap, m, q, D, Pl, hcs, _, hl, hm, _, hx, _⟩
  · simp at hcs; rw [hcs.2.1]; simp
  · simp at hcs
    obtain ⟨_, rfl, rfl⟩ := hcs
    injection hx with hx _
    have := sized_slice hsz ht (by rw [hd, hx]) hu
    rw [hb] at this
    simp only [List.length_map, List.length_range, reachBytes] at this
    refine Nat.le_trans (Nat.mul_le_mul_right _ (Nat.le_add_right n (m - n))) this
end
theorem bytes_of_ints {l : List Int} (h : ∀ i ∈ l, (Lit.int .u8 i).wf = true) : l.map (Value.int .u8) = bytesV (l.map Int.toNat) ∧ (∀ b ∈ l.map Int.toNat, b < 256) := by
  have hr : ∀ i ∈ l, 0 ≤ i ∧ i ≤ 255 := fun i hi => bounds_u8 (h i hi)
  constructor
  · unfold bytesV
    rw [List.map_map]
    refine List.map_congr_left fun i hi => ?_
    have := hr i hi
    simp; omega
  · intro b hb
    simp only [List.mem_map] at hb
    obtain ⟨i, hi, rfl⟩ := hb
    have := hr i hi
    omega
end Go.Proofs.Ytlgcdcjfobfoiaa
