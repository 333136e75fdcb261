/-
  delta.Apply at what delta.Make encoded: what it hands back. Conditions: what is read can be read.
-/
import Derived.Test.YtnidcmhfbkdioaaAl
import Derived.Test.YtnidcmhfbkdioaaAm
import Derived.Test.YtnidcmhfbkdioaaAf
import Derived.Test.YtnidcmhfbkdioaaAh
namespace Go.Proofs.Ytnidcmhfbkdioaa
open Go.RowKit
set_option maxRecDepth 100000

theorem SmO.below {w w' : World} {B : Nat} {x : Sm} (h : SmO w B x) (hb : Below B w w') : SmO w' B x := ⟨h.d.below hb, h.c.below hb, h.m.below hb, h.e.below hb⟩
/-- The state without anything. -/
def zeroS : Sm := ⟨0, ⟨none, 0, 0, [], none, 0, 0, [], none, 0, 0, []⟩, none, 0, 0, [], none, 0, 0, [], none, 0, 0, []⟩
theorem zeroS_ok (w : World) : SmO w w.heap.size zeroS :=
  ⟨⟨⟨Rd.nil_ _, rfl, Nat.le_refl _, by decide, fun x hx => (List.not_mem_nil hx).elim, Nat.le_refl _⟩, ⟨Rd.nil_ _, rfl, Nat.le_refl _, by decide, fun x hx => (List.not_mem_nil hx).elim, Nat.le_refl _⟩, ⟨Rd.nil_ _, rfl, Nat.le_refl _, by decide, fun x hx => (List.not_mem_nil hx).elim, Nat.le_refl _⟩⟩,
   ⟨Rd.nil_ _, rfl, Nat.le_refl _, by decide, fun x hx => (List.not_mem_nil hx).elim⟩, ⟨Rd.nil_ _, rfl, Nat.le_refl _, by decide, fun x hx => (List.not_mem_nil hx).elim⟩, ⟨Rd.nil_ _, rfl, Nat.le_refl _, by decide, fun x hx => (List.not_mem_nil hx).elim⟩⟩
theorem zeroS_y (w : World) (B : Nat) : SmY w B zeroS :=
  ⟨⟨⟨RdY.nil_ _, rfl, Nat.le_refl _, by decide, fun x hx => (List.not_mem_nil hx).elim⟩, ⟨RdY.nil_ _, rfl, Nat.le_refl _, by decide, fun x hx => (List.not_mem_nil hx).elim⟩, ⟨RdY.nil_ _, rfl, Nat.le_refl _, by decide, fun x hx => (List.not_mem_nil hx).elim⟩⟩,
   ⟨RdY.nil_ _, rfl, Nat.le_refl _, by decide, fun x hx => (List.not_mem_nil hx).elim⟩, ⟨RdY.nil_ _, rfl, Nat.le_refl _, by decide, fun x hx => (List.not_mem_nil hx).elim⟩, ⟨RdY.nil_ _, rfl, Nat.le_refl _, by decide, fun x hx => (List.not_mem_nil hx).elim⟩⟩
theorem zeroS_flat : flatS zeroS.p = [0, 0, 0, 0, 0, 0, 0] := rfl
theorem zeroS_r : i64r (flatS zeroS.p) := by
  rw [zeroS_flat]
  intro x hx
  simp at hx
  omega
theorem back_big {c : List Int} (d : List Nat) (hc : 65536 < c.length) : backD c d = (2, []) := by unfold backD; rw [if_pos hc]
theorem back_sum {a b c : List Int} (hc : c.length ≤ 65536) (hs : sumI c ≠ sumI a) : backD c (packB (encB a b)) = (13, []) := by
  have hh := HasB.pack (encB a b)
  generalize hd : packB (encB a b) = d at hh ⊢
  rw [encB_R, encH] at hh
  have ha0 := sumI_rng a
  have v1 := HasB.val (by omega) hh.left.left.left
  have hm := hh.left.left.left.1
  rw [bitsOf_length] at hm
  unfold backD
  rw [if_neg (by omega), if_neg (by omega), v1, if_pos (by rw [Int.toNat_of_nonneg ha0.1]; exact fun h => hs h.symm)]
theorem Sm.wf {w : World} {B : Nat} {x : Sm} (h : SmO w B x) : WfS x.p :=
  ⟨h.c.ok, fun m hm => by
    obtain ⟨z, _, rfl⟩ := List.mem_map.1 hm
    rfl, h.e.ok⟩

/-- What Apply hands back where the bytes are those of a difference. -/
def ApL (w : World) (F Fa : List Int) (p : Sv) (e : Ending) (w' : World) : Prop :=
  ∃ (z : Sm) (E : Int), e = .returned (.tuple #[.agg z.cs, .int .i64 E]) ∧ SmY w' 0 z ∧ (65536 < F.length → E = 2 ∧ z.p = zeroS.p) ∧ (F = Fa → E = 0 ∧ z.p = p) ∧ (F.length ≤ 65536 → sumI F ≠ sumI Fa → E = 13 ∧ z.p = zeroS.p) ∧ Below w.heap.size w w'
theorem applyL_any (y : Sm) (Fa Fb : List Int) (p : Sv) (D : Option Addr) (dn dc B : Nat) (w : World) (hy : SmO w B y) (hB : B ≤ w.heap.size) (hS : (flatS y.p).length ≤ 1048576) (rF : i64r (flatS y.p)) (hp : flatS p = Fb) (hwf : WfS p) (rb : i64r Fb) (hok : encOk Fa Fb)
    (hd : Rd w w.heap.size 1 D dn (bytesV (packB (encB Fa Fb)))) (hdn : dn = (packB (encB Fa Fb)).length) :
    Calls Try.prog 45 #[.agg y.cs, .slice D dn dc] w (ApL w (flatS y.p) Fa p) := by
  obtain ⟨F, hF⟩ : ∃ F, F = flatS y.p := ⟨_, rfl⟩
  have hlen : (packB (encB Fa Fb)).length ≤ 65536 := by
    have h3 := hok.2.2
    rw [packB_length]; omega
  have hw := backD_w (packB (encB Fa Fb)) rF
  have hbk := @back_ok Fa Fb rb hok
  have key := apply_gen y.T y.d.kA y.d.kn y.d.kc y.d.gA y.d.gn y.d.gc y.d.iA y.d.im y.d.ic y.cA y.cn y.cc y.mA y.mn y.mc y.eA y.en y.ec (flatS y.p) (packB (encB Fa Fb)) D dn dc w.heap.size w
    (fun wz hb => flatG_any y B wz (hy.below (hb.mono hB)) (Nat.le_trans hB hb.size) (by omega)) hd hdn (Nat.le_refl _) (by omega) rF (packB_lt _).1 (by have := hw.2.2; omega) hw.1
  refine Calls.mono key fun e w' h => ?_
  rw [← hF] at h hw hS ⊢
  unfold ApPost at h
  rcases h with ⟨h1, rfl, hb⟩ | ⟨h1, h2⟩
  · refine ⟨zeroS, _, rfl, zeroS_y _ _, fun hbig => ?_, fun he => ?_, fun hl hs => ?_, hb⟩
    · rw [back_big _ hbig]; exact ⟨rfl, rfl⟩
    · rw [he, hbk] at h1; exact absurd rfl h1
    · rw [back_sum hl hs]; exact ⟨rfl, rfl⟩
  · have nb : ¬ 65536 < F.length := fun hbig => by rw [back_big _ hbig] at h1; exact absurd h1 (by decide)
    have ns : ¬ (F.length ≤ 65536 ∧ sumI F ≠ sumI Fa) := fun hs => by rw [back_sum hs.1 hs.2] at h1; exact absurd h1 (by decide)
    unfold UfPost at h2
    obtain ⟨h2, hb⟩ := h2
    rcases h2 with ⟨h3, h4, y', rfl, hy'⟩ | ⟨h3, rfl⟩
    · refine ⟨y', 0, rfl, hy'.out.1, fun hbig => absurd hbig nb, fun he => ⟨rfl, ?_⟩, fun hl hs => absurd ⟨hl, hs⟩ ns, hb⟩
      rw [hy'.out.2, he, hbk]
      show (rSt (Fb, false)).1 = p
      rw [← hp, rSt_at p hwf]
    · refine ⟨zeroS, 3, rfl, zeroS_y _ _, fun hbig => absurd hbig nb, fun he => ?_, fun hl hs => absurd ⟨hl, hs⟩ ns, hb⟩
      rw [he, hbk] at h3
      have h5 : rSt ((0, Fb).2, false) = (p, ([], false)) := by show rSt (Fb, false) = _; rw [← hp, rSt_at p hwf]
      rw [h5] at h3
      rcases h3 with h3 | h3
      · exact absurd h3 (by simp)
      · exact absurd rfl h3
end Go.Proofs.Ytnidcmhfbkdioaa
