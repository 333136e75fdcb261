/-
  PROVED: the law InputUnpacks returns true for all frames and bytes and leaves its arguments as they were. No condition.
-/
import Derived.Test.YtlgcdcjfobfoiaaFr4
namespace Go.Proofs.Ytlgcdcjfobfoiaa.inputUnpacks
open Go.ChangeShapes Go.WideShapes Go.ChangeAt Go.RowKit
set_option maxRecDepth 100000

theorem lifted (os : Os) (started : os.Started) (H : Type) (enc : TypeId × Value → H) :
    ReturnsInHanded {} Try.checked os 9 .any (Rows.inputUnpacksSpec.pre6 enc Try.prog Try.f9 Rows.inputUnpacksRow.domain false) (Rows.inputUnpacksSpec.post enc Try.prog Try.f9 false true false false) := by
  refine returnsInHanded_of_change_sized (C := Try.checked) own started (by kernel_rfl) Try.func9
    (ChangeSpec.witness6 (enc := enc) (C := Try.checked) false ⟨#[], #[.slice none 0 0, .slice none 0 0], []⟩ 8 (by kernel_rfl) (by kernel_rfl) (by kernel_rfl) (by kernel_rfl)) ?_
  intro W base args ds gs before hval0 hW hcnd hsz0 _
  have hsz : (DataW.weightsEach Try.prog (Try.f9.params.toList ++ Rows.inputUnpacksSpec.plain.varTypes Try.prog) (ds ++ gs)).all (· ≤ reachBytes) = true := hsz0
  clear hsz0
  have hval : ∀ (j : Nat) t v, Try.f9.params[j]? = some t → args[j]? = some v → Value.okWide Try.prog W .any base t v := hval0
  have hW' := hW
  obtain ⟨p, q, hA0, hV, rfl, hfz, hnd⟩ := hW
  have hA : DataW.TrodAll enc Try.prog W 0 (fun _ => true) true Try.f9.params.toList args.toList ds p := hA0
  rw [Try.params9] at hA hval hsz
  obtain ⟨v0, vs0, d0, ds0, p0, q0, hargs, rfl, rfl, h0, r0⟩ := trodAll_cons hA
  obtain ⟨v1, vs1, d1, ds1, p1, q1, rfl, rfl, rfl, h1, r1⟩ := trodAll_cons r0
  obtain ⟨rfl, rfl, rfl⟩ := trodAll_nil r1
  obtain rfl : args = #[v0, v1] := by cases args; simp_all
  obtain ⟨rfl, rfl⟩ := trodVars_none hV
  obtain ⟨a0, len0, cap0, rfl⟩ := okWide_slice Try.underlying22 (hval 0 22 v0 rfl rfl)
  have k0 := h0
  have lt0 : ∀ x ∈ p0, x.block < W.heap.size := by obtain ⟨m, hm⟩ := k0; exact DataW.trod_lt m _ _ _ hm
  obtain ⟨l0, n0, m0, w0, g0⟩ : ∃ l : List Inp, len0 = l.length ∧ len0 ≤ 9223372036854775807 ∧ Rd W W.heap.size 3 a0 len0 (inCs l) ∧ ∀ i ∈ l, i.wf := by
    obtain ⟨fuel, hf⟩ := h0
    exact open_i3 Try.underlying22 Try.underlying24 (by kernel_rfl) (by kernel_rfl) Try.underlying3 Try.underlying3 Try.underlying3 hf
  obtain ⟨a1, len1, cap1, rfl⟩ := okWide_slice Try.underlying30 (hval 1 30 v1 rfl rfl)
  have k1 := h1
  have lt1 : ∀ x ∈ p1, x.block < W.heap.size := by obtain ⟨m, hm⟩ := k1; exact DataW.trod_lt m _ _ _ hm
  obtain ⟨l1, n1, c1, m1, w1, g1⟩ : ∃ l : List Int, len1 = l.length ∧ len1 ≤ cap1 ∧ cap1 ≤ 9223372036854775807 ∧ Rd W W.heap.size 1 a1 len1 (l.map (Value.int .u8)) ∧ ∀ i ∈ l, (Lit.int .u8 i).wf = true := by
    obtain ⟨fuel, hf⟩ := h1
    exact open_is Try.underlying30 (by kernel_rfl) Try.underlying5 hf
  have rz1 : len1 * 1 ≤ 140737488351232 := by
    obtain ⟨fuel, hf⟩ := h1
    exact reach_len (j := 1) (t := 30) (e := 5) hsz rfl rfl Try.underlying30 (by kernel_rfl) hf
  clear hA0
  refine (inputUnpacks_law a0 a1 len0 cap0 len1 cap1 W.heap.size l0 l1 W n0 n1 m0 rz1 w0 w1 g1 (Nat.le_refl _)).mono fun e W' ⟨he, bel⟩ => ?_
  subst he
  exact ⟨_, rfl, _, _, _, [], _, [], hW', trodAll_mk1 (shut_bool Try.underlying4 _), (trodAll_cons_mk (Below.trod laidOut (by kernel_rfl) (of_decide_eq_true (by kernel_rfl)) k0 bel lt0) (trodAll_cons_mk (Below.trod laidOut (by kernel_rfl) (of_decide_eq_true (by kernel_rfl)) k1 bel lt1) trodAll_mk0)), rfl, bel.frame _, fun h => by cases h⟩

theorem over : Rows.inputUnpacksRow.holds Try.pinned (OpenSpec.ofChange Rows.inputUnpacksSpec) :=
  OpenClaim.holds_of_wide 9 Try.f9 rfl rfl rfl rfl rfl rfl rfl ⟨rfl, rfl, rfl, rfl, rfl⟩ rfl rfl rfl rfl rfl (by kernel_rfl) Try.func9 (by kernel_rfl)
    (of_decide_eq_true (by kernel_rfl)) (by unfold Func.isWrapper; first | (rw [if_pos (by decide +kernel)]; kernel_rfl) | (rw [if_neg (by decide +kernel)]; exact ⟨rfl, rfl⟩))
    (fun os started H enc _ => lifted os started H enc)

/-- The statement. -/
theorem proved : Rows.InputUnpacksSaid := over
end Go.Proofs.Ytlgcdcjfobfoiaa.inputUnpacks
