/-
  PROVED: the law DeltaBack returns true for all its arguments of bulk at most 1048576 and leaves them as they were (DeltaBackUptoSaid).
-/
import Derived.Test.YtlgcdcjfobfoiaaDp
namespace Go.Proofs.Ytlgcdcjfobfoiaa.deltaBack
open Go.ChangeShapes Go.WideShapes Go.ChangeAt Go.RowKit
set_option maxRecDepth 100000

theorem lifted (os : Os) (started : os.Started) (H : Type) (enc : TypeId × Value → H) (F : Stop.Interp) :
    ReturnsInHanded {} Try.checked os 14 .any ((Rows.OpenSpec.upto Rows.deltaBackSpec).pre6 enc Try.prog Try.f14 Rows.deltaBackUptoRow.domain false) (((Rows.OpenSpec.upto Rows.deltaBackSpec).at F).post enc Try.prog Try.f14 false true false false) := by
  refine returnsInHanded_of_cond (C := Try.checked) (s := Rows.OpenSpec.upto Rows.deltaBackSpec) (k := Rows.uptoSmall) rfl own started (by kernel_rfl) Try.func14
    (OpenSpec.witness (enc := enc) (C := Try.checked) (s := Rows.OpenSpec.upto Rows.deltaBackSpec) (k := Rows.uptoSmall) rfl false ⟨#[], #[.slice none 0 0, .slice none 0 0, .slice none 0 0, .int .i64 0], []⟩ 8 (by kernel_rfl) (by kernel_rfl) (by kernel_rfl)
      (x := ([.nil, .nil, .nil, .lit (.int .i64 0)], [], [])) (by kernel_rfl) rfl (by kernel_rfl)) ?_
  intro W base args ds gs before hval0 hW hcnd hk0 _
  have hval : ∀ (j : Nat) t v, Try.f14.params[j]? = some t → args[j]? = some v → Value.okWide Try.prog W .any base t v := hval0
  have hW' := hW
  obtain ⟨p, q, hA0, hV, rfl, hfz, hnd⟩ := hW
  have hA : DataW.TrodAll enc Try.prog W 0 (fun _ => true) true Try.f14.params.toList args.toList ds p := hA0
  rw [Try.params14] at hA hval
  obtain ⟨v0, vs0, d0, ds0, p0, q0, hargs, rfl, rfl, h0, r0⟩ := trodAll_cons hA
  obtain ⟨v1, vs1, d1, ds1, p1, q1, rfl, rfl, rfl, h1, r1⟩ := trodAll_cons r0
  obtain ⟨v2, vs2, d2, ds2, p2, q2, rfl, rfl, rfl, h2, r2⟩ := trodAll_cons r1
  obtain ⟨v3, vs3, d3, ds3, p3, q3, rfl, rfl, rfl, h3, r3⟩ := trodAll_cons r2
  obtain ⟨rfl, rfl, rfl⟩ := trodAll_nil r3
  obtain rfl : args = #[v0, v1, v2, v3] := by cases args; simp_all
  obtain ⟨rfl, rfl⟩ := trodVars_none hV
  have hk : Rows.uptoSmall H _ = true := hk0
  obtain ⟨a0, len0, cap0, rfl⟩ := okWide_slice Try.underlying41 (hval 0 41 v0 rfl rfl)
  have k0 := h0
  have lt0 : ∀ x ∈ p0, x.block < W.heap.size := by obtain ⟨m, hm⟩ := k0; exact DataW.trod_lt m _ _ _ hm
  obtain ⟨l0, n0, c0, m0, w0, g0⟩ : ∃ l : List Int, len0 = l.length ∧ len0 ≤ cap0 ∧ cap0 ≤ 9223372036854775807 ∧ Rd W W.heap.size 1 a0 len0 (l.map (Value.int .i64)) ∧ ∀ i ∈ l, (Lit.int .i64 i).wf = true := by
    obtain ⟨fuel, hf⟩ := h0
    exact open_is Try.underlying41 (by kernel_rfl) Try.underlying3 hf
  have u0 : len0 ≤ 1048576 := by obtain ⟨fuel, hf⟩ := h0; exact bulk_len (H := H) hk (by simp) Try.underlying41 hf
  obtain ⟨a1, len1, cap1, rfl⟩ := okWide_slice Try.underlying41 (hval 1 41 v1 rfl rfl)
  have k1 := h1
  have lt1 : ∀ x ∈ p1, x.block < W.heap.size := by obtain ⟨m, hm⟩ := k1; exact DataW.trod_lt m _ _ _ hm
  obtain ⟨l1, n1, c1, m1, w1, g1⟩ : ∃ l : List Int, len1 = l.length ∧ len1 ≤ cap1 ∧ cap1 ≤ 9223372036854775807 ∧ Rd W W.heap.size 1 a1 len1 (l.map (Value.int .i64)) ∧ ∀ i ∈ l, (Lit.int .i64 i).wf = true := by
    obtain ⟨fuel, hf⟩ := h1
    exact open_is Try.underlying41 (by kernel_rfl) Try.underlying3 hf
  have u1 : len1 ≤ 1048576 := by obtain ⟨fuel, hf⟩ := h1; exact bulk_len (H := H) hk (by simp) Try.underlying41 hf
  obtain ⟨a2, len2, cap2, rfl⟩ := okWide_slice Try.underlying30 (hval 2 30 v2 rfl rfl)
  have k2 := h2
  have lt2 : ∀ x ∈ p2, x.block < W.heap.size := by obtain ⟨m, hm⟩ := k2; exact DataW.trod_lt m _ _ _ hm
  obtain ⟨l2, n2, c2, m2, w2, g2⟩ : ∃ l : List Int, len2 = l.length ∧ len2 ≤ cap2 ∧ cap2 ≤ 9223372036854775807 ∧ Rd W W.heap.size 1 a2 len2 (l.map (Value.int .u8)) ∧ ∀ i ∈ l, (Lit.int .u8 i).wf = true := by
    obtain ⟨fuel, hf⟩ := h2
    exact open_is Try.underlying30 (by kernel_rfl) Try.underlying5 hf
  have u2 : len2 ≤ 1048576 := by obtain ⟨fuel, hf⟩ := h2; exact bulk_len (H := H) hk (by simp) Try.underlying30 hf
  obtain ⟨a3, rfl, rfl, rfl, b3⟩ := open_int Try.underlying3 (hval 3 3 v3 rfl rfl) h3
  clear hA0
  refine (deltaBack_law a0 a1 a2 len0 cap0 len1 cap1 len2 cap2 l0 l1 l2 a3 W w0 n0 u0 g0 w1 n1 u1 g1 w2 n2 u2 g2 b3).mono fun e W' ⟨he, bel⟩ => ?_
  subst he
  exact ⟨_, rfl, _, _, _, [], _, [], hW', trodAll_mk1 (shut_bool Try.underlying4 _), (trodAll_cons_mk (Below.trod laidOut (by kernel_rfl) (of_decide_eq_true (by kernel_rfl)) k0 bel lt0) (trodAll_cons_mk (Below.trod laidOut (by kernel_rfl) (of_decide_eq_true (by kernel_rfl)) k1 bel lt1) (trodAll_cons_mk (Below.trod laidOut (by kernel_rfl) (of_decide_eq_true (by kernel_rfl)) k2 bel lt2) (trodAll_cons_mk (shut_int Try.underlying3 b3) trodAll_mk0)))), rfl, bel.frame _, fun h => by cases h⟩

theorem over : Rows.deltaBackUptoRow.holds Try.pinned (Rows.OpenSpec.upto Rows.deltaBackSpec) :=
  OpenClaim.holds_of_cond 14 Try.f14 rfl rfl rfl rfl rfl rfl rfl ⟨rfl, rfl, rfl, rfl, rfl⟩ rfl rfl rfl rfl rfl (by kernel_rfl) Try.func14 (by kernel_rfl)
    (of_decide_eq_true (by kernel_rfl)) (by unfold Func.isWrapper; first | (rw [if_pos (by decide +kernel)]; kernel_rfl) | (rw [if_neg (by decide +kernel)]; exact ⟨rfl, rfl⟩))
    (fun os started H enc _ F => lifted os started H enc F)

/-- The statement. -/
theorem proved : Rows.DeltaBackUptoSaid := over
end Go.Proofs.Ytlgcdcjfobfoiaa.deltaBack
