/-
  PROVED: the law DeltaStates returns true for all its arguments of bulk at most 1048576 and leaves them as they were (DeltaStatesUptoSaid).
-/
import Derived.Test.YtnidcmhfbkdioaaLawDeltaStatesF
import Derived.Test.YtnidcmhfbkdioaaAr
import Derived.Test.YtnidcmhfbkdioaaFs
namespace Go.Proofs.Ytnidcmhfbkdioaa.deltaStates
open Go.ChangeShapes Go.WideShapes Go.ChangeAt Go.RowKit
set_option maxRecDepth 100000

theorem lifted (os : Os) (started : os.Started) (H : Type) (enc : TypeId × Value → H) (F : Stop.Interp) :
    ReturnsInHanded {} Try.checked os 8 .any ((Rows.OpenSpec.upto Rows.deltaStatesSpec).pre6 enc Try.prog Try.f8 Rows.deltaStatesUptoRow.domain false) (((Rows.OpenSpec.upto Rows.deltaStatesSpec).at F).post enc Try.prog Try.f8 false true false false) := by
  refine returnsInHanded_of_cond (C := Try.checked) (s := Rows.OpenSpec.upto Rows.deltaStatesSpec) (k := Rows.uptoSmall) rfl own started (by kernel_rfl) Try.func8
    (OpenSpec.witness (enc := enc) (C := Try.checked) (s := Rows.OpenSpec.upto Rows.deltaStatesSpec) (k := Rows.uptoSmall) rfl false ⟨#[], #[.agg #[.int .i64 0, .slice none 0 0, .slice none 0 0, .slice none 0 0, .slice none 0 0, .slice none 0 0, .slice none 0 0], .agg #[.int .i64 0, .slice none 0 0, .slice none 0 0, .slice none 0 0, .slice none 0 0, .slice none 0 0, .slice none 0 0], .agg #[.int .i64 0, .slice none 0 0, .slice none 0 0, .slice none 0 0, .slice none 0 0, .slice none 0 0, .slice none 0 0]], []⟩ 8 (by kernel_rfl) (by kernel_rfl) (by kernel_rfl)
      (x := ([.agg [.lit (.int .i64 0), .agg [.nil, .nil, .nil], .nil, .nil, .nil], .agg [.lit (.int .i64 0), .agg [.nil, .nil, .nil], .nil, .nil, .nil], .agg [.lit (.int .i64 0), .agg [.nil, .nil, .nil], .nil, .nil, .nil]], [], [])) (by kernel_rfl) rfl (by kernel_rfl)) ?_
  intro W base args ds gs before hval0 hW hcnd hk0 _
  have hval : ∀ (j : Nat) t v, Try.f8.params[j]? = some t → args[j]? = some v → Value.okWide Try.prog W .any base t v := hval0
  have hW' := hW
  obtain ⟨p, q, hA0, hV, rfl, hfz, hnd⟩ := hW
  have hA : DataW.TrodAll enc Try.prog W 0 (fun _ => true) true Try.f8.params.toList args.toList ds p := hA0
  rw [Try.params8] at hA hval
  obtain ⟨v0, vs0, d0, ds0, p0, q0, hargs, rfl, rfl, h0, r0⟩ := trodAll_cons hA
  obtain ⟨v1, vs1, d1, ds1, p1, q1, rfl, rfl, rfl, h1, r1⟩ := trodAll_cons r0
  obtain ⟨v2, vs2, d2, ds2, p2, q2, rfl, rfl, rfl, h2, r2⟩ := trodAll_cons r1
  obtain ⟨rfl, rfl, rfl⟩ := trodAll_nil r2
  obtain rfl : args = #[v0, v1, v2] := by cases args; simp_all
  obtain ⟨rfl, rfl⟩ := trodVars_none hV
  have hk : Rows.uptoSmall H _ = true := hk0
  have hk1 : Rows.uptoBulkAll [d0, d1, d2] ≤ 1048576 := of_decide_eq_true hk
  obtain ⟨x0, rfl, _⟩ := okWide_struct Try.underlying80 (hval 0 80 v0 rfl rfl)
  have k0 := h0
  have lt0 : ∀ x ∈ p0, x.block < W.heap.size := by obtain ⟨m, hm⟩ := k0; exact DataW.trod_lt m _ _ _ hm
  obtain ⟨y0, e0, w0, s0, z0⟩ : ∃ y : Sm, x0 = y.cs ∧ SmO W W.heap.size y ∧ i64r (flatS y.p) ∧ (flatS y.p).length ≤ 1048576 := by
    obtain ⟨fuel, hf⟩ := h0
    have hb : Rows.uptoBulk d0 ≤ 1048576 := Nat.le_trans (bulk_part (by simp)) hk1
    obtain ⟨y, h1, h2, h3, h4⟩ := open_st hf hb
    exact ⟨y, by rw [← Array.toList_inj]; exact h1, h2, h3, Nat.le_trans h4 hb⟩
  subst e0
  obtain ⟨x1, rfl, _⟩ := okWide_struct Try.underlying80 (hval 1 80 v1 rfl rfl)
  have k1 := h1
  have lt1 : ∀ x ∈ p1, x.block < W.heap.size := by obtain ⟨m, hm⟩ := k1; exact DataW.trod_lt m _ _ _ hm
  obtain ⟨y1, e1, w1, s1, z1⟩ : ∃ y : Sm, x1 = y.cs ∧ SmO W W.heap.size y ∧ i64r (flatS y.p) ∧ (flatS y.p).length ≤ 1048576 := by
    obtain ⟨fuel, hf⟩ := h1
    have hb : Rows.uptoBulk d1 ≤ 1048576 := Nat.le_trans (bulk_part (by simp)) hk1
    obtain ⟨y, h1, h2, h3, h4⟩ := open_st hf hb
    exact ⟨y, by rw [← Array.toList_inj]; exact h1, h2, h3, Nat.le_trans h4 hb⟩
  subst e1
  obtain ⟨x2, rfl, _⟩ := okWide_struct Try.underlying80 (hval 2 80 v2 rfl rfl)
  have k2 := h2
  have lt2 : ∀ x ∈ p2, x.block < W.heap.size := by obtain ⟨m, hm⟩ := k2; exact DataW.trod_lt m _ _ _ hm
  obtain ⟨y2, e2, w2, s2, z2⟩ : ∃ y : Sm, x2 = y.cs ∧ SmO W W.heap.size y ∧ i64r (flatS y.p) ∧ (flatS y.p).length ≤ 1048576 := by
    obtain ⟨fuel, hf⟩ := h2
    have hb : Rows.uptoBulk d2 ≤ 1048576 := Nat.le_trans (bulk_part (by simp)) hk1
    obtain ⟨y, h1, h2, h3, h4⟩ := open_st hf hb
    exact ⟨y, by rw [← Array.toList_inj]; exact h1, h2, h3, Nat.le_trans h4 hb⟩
  subst e2
  clear hA0
  refine (deltaStates_any y0 y1 y2 W w0 w1 w2 s0 s1 s2 z0 z1 z2).mono fun e W' ⟨he, bel⟩ => ?_
  subst he
  exact ⟨_, rfl, _, _, _, [], _, [], hW', trodAll_mk1 (shut_bool Try.underlying4 _), (trodAll_cons_mk (Below.trod laidOut (by kernel_rfl) (of_decide_eq_true (by kernel_rfl)) k0 bel lt0) (trodAll_cons_mk (Below.trod laidOut (by kernel_rfl) (of_decide_eq_true (by kernel_rfl)) k1 bel lt1) (trodAll_cons_mk (Below.trod laidOut (by kernel_rfl) (of_decide_eq_true (by kernel_rfl)) k2 bel lt2) trodAll_mk0))), rfl, bel.frame _, fun h => by cases h⟩

theorem over : Rows.deltaStatesUptoRow.holds Try.pinned (Rows.OpenSpec.upto Rows.deltaStatesSpec) :=
  OpenClaim.holds_of_cond 8 Try.f8 rfl rfl rfl rfl rfl rfl rfl ⟨rfl, rfl, rfl, rfl, rfl⟩ rfl rfl rfl rfl rfl (by kernel_rfl) Try.func8 factB
    (of_decide_eq_true (by kernel_rfl)) (by unfold Func.isWrapper; first | (rw [if_pos (by decide +kernel)]; kernel_rfl) | (rw [if_neg (by decide +kernel)]; exact ⟨rfl, rfl⟩))
    (fun os started H enc _ F => lifted os started H enc F)

/-- The statement. -/
theorem proved : Rows.DeltaStatesUptoSaid := over
end Go.Proofs.Ytnidcmhfbkdioaa.deltaStates
