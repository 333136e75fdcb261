/-
  PROVED: after writing back once, further writing changes nothing. No condition.
-/
import Derived.Test.YtnidcmhfbkdioaaLawBridgeTwiceF
import Derived.Test.YtnidcmhfbkdioaaSz45
import Derived.Test.YtnidcmhfbkdioaaSz28
namespace Go.Proofs.Ytnidcmhfbkdioaa.bridgeTwice
open Go.ChangeShapes Go.WideShapes Go.ChangeAt Go.RowKit
set_option maxRecDepth 100000
theorem lifted (os : Os) (started : os.Started) (H : Type) (enc : TypeId × Value → H) :
    ReturnsInHanded {} Try.checked os 16 .any (Rows.bridgeTwiceSpec.pre6 enc Try.prog Try.f16 Rows.bridgeTwiceRow.domain false) (Rows.bridgeTwiceSpec.post enc Try.prog Try.f16 false true false false) := by
  refine returnsInHanded_of_change (C := Try.checked) own started (by kernel_rfl) Try.func16
    (ChangeSpec.witness6 (enc := enc) (C := Try.checked) false ⟨#[], #[.slice none 0 0, .slice none 0 0], []⟩ 8 (by kernel_rfl) (by kernel_rfl) (by kernel_rfl) (by kernel_rfl)) ?_
  intro W base args ds gs before hval0 hW hcnd _
  have hval : ∀ (j : Nat) t v, Try.f16.params[j]? = some t → args[j]? = some v → Value.okWide Try.prog W .any base t v := hval0
  have hW' := hW
  obtain ⟨p, q, hA0, hV, rfl, hfz, hnd⟩ := hW
  have hA : DataW.TrodAll enc Try.prog W 0 (fun _ => true) true Try.f16.params.toList args.toList ds p := hA0
  rw [Try.params16] at hA hval
  obtain ⟨v0, vs0, d0, ds0, p0, q0, hargs, rfl, rfl, h0, r0⟩ := trodAll_cons hA
  obtain ⟨v1, vs1, d1, ds1, p1, q1, rfl, rfl, rfl, h1, r1⟩ := trodAll_cons r0
  obtain ⟨rfl, rfl, rfl⟩ := trodAll_nil r1
  obtain rfl : args = #[v0, v1] := by cases args; simp_all
  obtain ⟨rfl, rfl⟩ := trodVars_none hV
  obtain ⟨a0, len0, cap0, rfl⟩ := okWide_slice Try.underlying30 (hval 0 30 v0 rfl rfl)
  have k0 := h0
  have lt0 : ∀ x ∈ p0, x.block < W.heap.size := by obtain ⟨m, hm⟩ := k0; exact DataW.trod_lt m _ _ _ hm
  obtain ⟨l0, n0, c0, m0, w0, g0⟩ : ∃ l : List Int, len0 = l.length ∧ len0 ≤ cap0 ∧ cap0 ≤ 9223372036854775807 ∧ Rd W W.heap.size 1 a0 len0 (l.map (Value.int .i64)) ∧ ∀ i ∈ l, (Lit.int .i64 i).wf = true := by
    obtain ⟨fuel, hf⟩ := h0
    exact open_is Try.underlying30 (by kernel_rfl) Try.underlying3 hf
  obtain ⟨a1, len1, cap1, rfl⟩ := okWide_slice Try.underlying30 (hval 1 30 v1 rfl rfl)
  have k1 := h1
  have lt1 : ∀ x ∈ p1, x.block < W.heap.size := by obtain ⟨m, hm⟩ := k1; exact DataW.trod_lt m _ _ _ hm
  obtain ⟨l1, n1, c1, m1, w1, g1⟩ : ∃ l : List Int, len1 = l.length ∧ len1 ≤ cap1 ∧ cap1 ≤ 9223372036854775807 ∧ Rd W W.heap.size 1 a1 len1 (l.map (Value.int .i64)) ∧ ∀ i ∈ l, (Lit.int .i64 i).wf = true := by
    obtain ⟨fuel, hf⟩ := h1
    exact open_is Try.underlying30 (by kernel_rfl) Try.underlying3 hf
  clear hA0
  refine (bridgeTwice_any w0 n0 c0 m0 g0 w1 n1 c1 m1 g1).mono fun e W' ⟨he, bel⟩ => ?_
  subst he
  exact ⟨_, rfl, _, _, _, [], _, [], hW', trodAll_mk1 (shut_bool Try.underlying4 _), (trodAll_cons_mk (Below.trod laidOut (by kernel_rfl) (of_decide_eq_true (by kernel_rfl)) k0 bel lt0) (trodAll_cons_mk (Below.trod laidOut (by kernel_rfl) (of_decide_eq_true (by kernel_rfl)) k1 bel lt1) trodAll_mk0)), rfl, bel.frame _, fun h => by cases h⟩
theorem over : Rows.bridgeTwiceRow.holds Try.pinned (OpenSpec.ofChange Rows.bridgeTwiceSpec) :=
  OpenClaim.holds_of_wide 16 Try.f16 rfl rfl rfl rfl rfl rfl rfl ⟨rfl, rfl, rfl, rfl, rfl⟩ rfl rfl rfl rfl rfl (by kernel_rfl) Try.func16 factB
    (of_decide_eq_true (by kernel_rfl)) (by unfold Func.isWrapper; first | (rw [if_pos (by decide +kernel)]; kernel_rfl) | (rw [if_neg (by decide +kernel)]; exact ⟨rfl, rfl⟩))
    (fun os started H enc _ => lifted os started H enc)
/-- The statement. -/
theorem proved : Rows.BridgeTwiceSaid := over
end Go.Proofs.Ytnidcmhfbkdioaa.bridgeTwice
