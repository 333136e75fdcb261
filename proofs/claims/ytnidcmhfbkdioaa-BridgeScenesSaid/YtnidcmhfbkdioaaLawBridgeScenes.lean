/-
  PROVED: bridge.Scene returns the bodies, entities and contacts of the reference for all worlds, contacts and further values. No condition.
-/
import Derived.Test.YtnidcmhfbkdioaaLawBridgeScenesF
import Derived.Test.YtnidcmhfbkdioaaSk22
import Derived.Test.YtnidcmhfbkdioaaSk23
namespace Go.Proofs.Ytnidcmhfbkdioaa.bridgeScenes
open Go.ChangeShapes Go.WideShapes Go.ChangeAt Go.RowKit
set_option maxRecDepth 100000
theorem lifted (os : Os) (started : os.Started) (H : Type) (enc : TypeId × Value → H) :
    ReturnsInHanded {} Try.checked os 11 .any (Rows.bridgeScenesSpec.pre6 enc Try.prog Try.f11 Rows.bridgeScenesRow.domain false) (Rows.bridgeScenesSpec.post enc Try.prog Try.f11 false true false false) := by
  refine returnsInHanded_of_change_sized (C := Try.checked) own started (by kernel_rfl) Try.func11
    (ChangeSpec.witness6 (enc := enc) (C := Try.checked) false ⟨#[], #[.agg #[.slice none 0 0, .slice none 0 0, .slice none 0 0], .slice none 0 0, .slice none 0 0, .slice none 0 0, .agg #[.int .i64 0, .int .i64 0], .int .i64 0], []⟩ 8 (by kernel_rfl) (by kernel_rfl) (by kernel_rfl) (by kernel_rfl)) ?_
  intro W base args ds gs before hval0 hW hcnd hsz0 _
  have hsz : (DataW.weightsEach Try.prog (Try.f11.params.toList ++ Rows.bridgeScenesSpec.plain.varTypes Try.prog) (ds ++ gs)).all (· ≤ reachBytes) = true := hsz0
  clear hsz0
  have hval : ∀ (j : Nat) t v, Try.f11.params[j]? = some t → args[j]? = some v → Value.okWide Try.prog W .any base t v := hval0
  have hW' := hW
  obtain ⟨p, q, hA0, hV, rfl, hfz, hnd⟩ := hW
  have hA : DataW.TrodAll enc Try.prog W 0 (fun _ => true) true Try.f11.params.toList args.toList ds p := hA0
  rw [Try.params11] at hA hval hsz
  obtain ⟨v0, vs0, d0, ds0, p0, q0, hargs, rfl, rfl, h0, r0⟩ := trodAll_cons hA
  obtain ⟨v1, vs1, d1, ds1, p1, q1, rfl, rfl, rfl, h1, r1⟩ := trodAll_cons r0
  obtain ⟨v2, vs2, d2, ds2, p2, q2, rfl, rfl, rfl, h2, r2⟩ := trodAll_cons r1
  obtain ⟨v3, vs3, d3, ds3, p3, q3, rfl, rfl, rfl, h3, r3⟩ := trodAll_cons r2
  obtain ⟨v4, vs4, d4, ds4, p4, q4, rfl, rfl, rfl, h4, r4⟩ := trodAll_cons r3
  obtain ⟨v5, vs5, d5, ds5, p5, q5, rfl, rfl, rfl, h5, r5⟩ := trodAll_cons r4
  obtain ⟨rfl, rfl, rfl⟩ := trodAll_nil r5
  obtain rfl : args = #[v0, v1, v2, v3, v4, v5] := by cases args; simp_all
  obtain ⟨rfl, rfl⟩ := trodVars_none hV
  obtain ⟨x0, rfl, _⟩ := okWide_struct Try.underlying52 (hval 0 52 v0 rfl rfl)
  have k0 := h0
  have lt0 : ∀ x ∈ p0, x.block < W.heap.size := by obtain ⟨m, hm⟩ := k0; exact DataW.trod_lt m _ _ _ hm
  obtain ⟨y0, e0, w0⟩ : ∃ y : Wd, x0 = #[.slice y.kA y.kn y.kc, .slice y.gA y.gn y.gc, .slice y.iA y.im y.ic] ∧ WdOk W W.heap.size y := by
    obtain ⟨fuel, hf⟩ := h0
    obtain ⟨y, h1, h2⟩ := open_wd hf
    exact ⟨y, by rw [← Array.toList_inj]; exact h1, h2⟩
  subst e0
  obtain ⟨a1, len1, cap1, rfl⟩ := okWide_slice Try.underlying30 (hval 1 30 v1 rfl rfl)
  have k1 := h1
  have lt1 : ∀ x ∈ p1, x.block < W.heap.size := by obtain ⟨m, hm⟩ := k1; exact DataW.trod_lt m _ _ _ hm
  obtain ⟨l1, n1, c1, m1, w1, g1⟩ : ∃ l : List Int, len1 = l.length ∧ len1 ≤ cap1 ∧ cap1 ≤ 9223372036854775807 ∧ Rd W W.heap.size 1 a1 len1 (l.map (Value.int .i64)) ∧ ∀ i ∈ l, (Lit.int .i64 i).wf = true := by
    obtain ⟨fuel, hf⟩ := h1
    exact open_is Try.underlying30 (by kernel_rfl) Try.underlying3 hf
  obtain ⟨a2, len2, cap2, rfl⟩ := okWide_slice Try.underlying30 (hval 2 30 v2 rfl rfl)
  have k2 := h2
  have lt2 : ∀ x ∈ p2, x.block < W.heap.size := by obtain ⟨m, hm⟩ := k2; exact DataW.trod_lt m _ _ _ hm
  obtain ⟨l2, n2, c2, m2, w2, g2⟩ : ∃ l : List Int, len2 = l.length ∧ len2 ≤ cap2 ∧ cap2 ≤ 9223372036854775807 ∧ Rd W W.heap.size 1 a2 len2 (l.map (Value.int .i64)) ∧ ∀ i ∈ l, (Lit.int .i64 i).wf = true := by
    obtain ⟨fuel, hf⟩ := h2
    exact open_is Try.underlying30 (by kernel_rfl) Try.underlying3 hf
  obtain ⟨a3, len3, cap3, rfl⟩ := okWide_slice Try.underlying76 (hval 3 76 v3 rfl rfl)
  have k3 := h3
  have lt3 : ∀ x ∈ p3, x.block < W.heap.size := by obtain ⟨m, hm⟩ := k3; exact DataW.trod_lt m _ _ _ hm
  obtain ⟨l3, n3, c3, m3, w3, g3⟩ : ∃ l : List Ct, len3 = l.length ∧ len3 ≤ cap3 ∧ cap3 ≤ 9223372036854775807 ∧ Rd W W.heap.size 10 a3 len3 (ctCs l) ∧ ∀ k ∈ l, (Lit.int .i64 k.a).wf = true ∧ (Lit.int .i64 k.b).wf = true := by
    obtain ⟨fuel, hf⟩ := h3
    exact open_cts hf
  have rz3 : len3 * 80 ≤ 140737488351232 := by
    obtain ⟨fuel, hf⟩ := h3
    exact reach_len (j := 3) (t := 76) (e := 131) hsz rfl rfl Try.underlying76 (by kernel_rfl) hf
  obtain ⟨x4, rfl, _⟩ := okWide_struct Try.underlying105 (hval 4 105 v4 rfl rfl)
  have k4 := h4
  have lt4 : ∀ x ∈ p4, x.block < W.heap.size := by obtain ⟨m, hm⟩ := k4; exact DataW.trod_lt m _ _ _ hm
  obtain ⟨y4, z4, e4⟩ : ∃ a b : Int, x4 = #[.int .i64 a, .int .i64 b] := by
    obtain ⟨fuel, hf⟩ := h4
    obtain ⟨a, b, h1⟩ := open_vec hf
    exact ⟨a, b, by rw [← Array.toList_inj]; exact h1⟩
  subst e4
  obtain ⟨a5, rfl, rfl, rfl, b5⟩ := open_int Try.underlying3 (hval 5 3 v5 rfl rfl) h5
  clear hA0
  refine (bridgeScenes_any w0 w1 n1 c1 m1 g1 w2 n2 c2 m2 g2 w3 n3 c3 m3 g3 (by omega)).mono fun e W' ⟨he, bel⟩ => ?_
  subst he
  exact ⟨_, rfl, _, _, _, [], _, [], hW', trodAll_mk1 (shut_bool Try.underlying4 _), (trodAll_cons_mk (Below.trod laidOut (by kernel_rfl) (of_decide_eq_true (by kernel_rfl)) k0 bel lt0) (trodAll_cons_mk (Below.trod laidOut (by kernel_rfl) (of_decide_eq_true (by kernel_rfl)) k1 bel lt1) (trodAll_cons_mk (Below.trod laidOut (by kernel_rfl) (of_decide_eq_true (by kernel_rfl)) k2 bel lt2) (trodAll_cons_mk (Below.trod laidOut (by kernel_rfl) (of_decide_eq_true (by kernel_rfl)) k3 bel lt3) (trodAll_cons_mk (Below.trod laidOut (by kernel_rfl) (of_decide_eq_true (by kernel_rfl)) k4 bel lt4) (trodAll_cons_mk (shut_int Try.underlying3 b5) trodAll_mk0)))))), rfl, bel.frame _, fun h => by cases h⟩
theorem over : Rows.bridgeScenesRow.holds Try.pinned (OpenSpec.ofChange Rows.bridgeScenesSpec) :=
  OpenClaim.holds_of_wide 11 Try.f11 rfl rfl rfl rfl rfl rfl rfl ⟨rfl, rfl, rfl, rfl, rfl⟩ rfl rfl rfl rfl rfl (by kernel_rfl) Try.func11 factB
    (of_decide_eq_true (by kernel_rfl)) (by unfold Func.isWrapper; first | (rw [if_pos (by decide +kernel)]; kernel_rfl) | (rw [if_neg (by decide +kernel)]; exact ⟨rfl, rfl⟩))
    (fun os started H enc _ => lifted os started H enc)
/-- The statement. -/
theorem proved : Rows.BridgeScenesSaid := over
end Go.Proofs.Ytnidcmhfbkdioaa.bridgeScenes
