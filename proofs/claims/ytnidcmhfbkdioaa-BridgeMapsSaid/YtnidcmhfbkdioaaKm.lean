/-
  The contract of mapFault. Conditions: what is read can be read.
-/
import Derived.Test.YtnidcmhfbkdioaaKl
namespace Go.Proofs.Ytnidcmhfbkdioaa
open Go.RowKit
set_option maxRecDepth 100000

def mapF (ks : List (ByteArray × List Fd)) : (Int × Int × Int) × Int :=
  if checkF ks ≠ 0 then ((0, 0, 0), checkF ks) else
  if (spec ks sp0).2 && (spec ks sp1).2 && (spec ks sp2).2 then (((spec ks sp0).1, (spec ks sp1).1, (spec ks sp2).1), 0) else ((0, 0, 0), 8)

set_option maxHeartbeats 1600000 in
theorem mapFault_any {w : World} {B n c : Nat} {A : Option Addr} {ks : List Kd} (h : KsOk w B A n c ks) (hsm : checkF (ks.map Kd.p) = 0 → ∀ k ∈ ks, k.n ≤ 1048576) : Calls Try.prog 20 #[.slice A n c] w (OfP w (mapF (ks.map Kd.p))) := by
  obtain ⟨R, hR⟩ : ∃ R, R = mapF (ks.map Kd.p) := ⟨_, rfl⟩
  rw [← hR]
  have HR := Lib.hid hR
  have HSM := Lib.hid hsm
  obtain ⟨w1, hw1⟩ : ∃ w1, w1 = w.alloc (.cells #[.int .i64 0, .int .i64 0, .int .i64 0] 24) := ⟨_, rfl⟩
  have hb1 : Below w.heap.size w w1 := by rw [hw1]; exact (Below.refl _ w).alloc (Nat.le_refl _) _
  have hk1 : Bk w1 w.heap.size 24 #[.int .i64 0, .int .i64 0, .int .i64 0] := by rw [hw1]; exact Bk.new _ _ _
  have h1 := h.below (hb1.mono h.lo)
  have hck := check_any A n c B ks w1 h1.rd h1.len h1.cap h1.cap2 h1.ok h1.lo
  have HCK := Lib.hid hck
  have H1 := Lib.hid h1
  have HB1 := Lib.hid hb1
  have HK1 := Lib.hid hk1
  clear hR hb1 hk1 h1 hck hsm
  go_enter Try.func20, Try.ntmps20
  go_wp2_with fail
  rw [← hw1]
  clear hw1
  refine HCK.out.mono ?_
  rintro e w2 ⟨rfl, hb2⟩
  have HB2 := Lib.hid (HB1.out.trans (hb2.mono HB1.out.size))
  have HK2 := Lib.hid (HK1.out.below hb2 HK1.out.lt)
  have H2 := Lib.hid (H1.out.below (hb2.mono H1.out.lo))
  clear hb2
  have hR2 := HR.out
  rw [mapF] at hR2
  generalize hcv : checkF (ks.map Kd.p) = cv at *
  by_cases hc0 : cv = 0
  · subst hc0
    rw [if_neg (by simp)] at hR2
    have hsp := special_any H2.out (HSM.out rfl)
    unfold SpecP spX spY at hsp
    generalize spec (ks.map Kd.p) sp0 = r0 at *
    generalize spec (ks.map Kd.p) sp1 = r1 at *
    generalize spec (ks.map Kd.p) sp2 = r2 at *
    generalize spec (ks.map Kd.p) sp3 = r3 at *
    generalize spec (ks.map Kd.p) sp4 = r4 at *
    obtain ⟨a0, b0⟩ := r0
    obtain ⟨a1, b1⟩ := r1
    obtain ⟨a2, b2⟩ := r2
    obtain ⟨a3, b3⟩ := r3
    obtain ⟨a4, b4⟩ := r4
    have HSP := Lib.hid hsp
    have HR2 := Lib.hid hR2
    clear hsp hR2 HR HSM HCK hcv
    go_wp2_with fail
    refine HSP.out.mono ?_
    rintro e w3 ⟨rfl, hb3⟩
    have hk3 := HK2.out.below hb3 HK2.out.lt
    have hb4 := HB2.out.trans (hb3.mono HB2.out.size)
    have hk5 := (hk3.alloc (.cells #[.int .i64 a0, .int .i64 a1, .int .i64 a2, .int .i64 a3, .int .i64 a4] 141)).alloc (.cells #[.bool b0, .bool b1, .bool b2, .bool b3, .bool b4] 142)
    have hb5 := (hb4.alloc hb4.size (.cells #[.int .i64 a0, .int .i64 a1, .int .i64 a2, .int .i64 a3, .int .i64 a4] 141)).alloc (by have := hb4.size; simp; omega) (.cells #[.bool b0, .bool b1, .bool b2, .bool b3, .bool b4] 142)
    have HB5 := Lib.hid hb5
    have q0 := hk5.cell 0
    have q1 := hk5.cell 1
    have q2 := hk5.cell 2
    have g0 := hk5.frozen 0
    have g1 := hk5.frozen 1
    have g2 := hk5.frozen 2
    simp only [List.getElem?_toArray, List.getElem?_cons_zero, List.getElem?_cons_succ] at q0 q1 q2
    clear hk3 hb4 hk5 hb5 hb3 HSP
    cases b0 <;> cases b1 <;> cases b2 <;>
    · go_wp2_with fail
      (try simp only [Exit.inBlock, Exit.then])
      first
        | (refine bodyPost_ret (v := .tuple #[.agg #[.int .i64 0, .int .i64 0, .int .i64 0], .int .i64 8]) ?_ rfl ⟨by rw [HR2.out]; rfl, ?_⟩
           · rw [results_cell_tmp rfl]
             go_simp
           · repeat' (first | with_reducible exact HB5.out | (with_reducible refine Below.setCell ?_ ?_ _; rotate_left; exact Nat.le_refl _)))
        | (refine bodyPost_ret (v := .tuple #[.agg #[.int .i64 a0, .int .i64 a1, .int .i64 a2], .int .i64 0]) ?_ rfl ⟨by rw [HR2.out]; rfl, ?_⟩
           · rw [results_cell_tmp rfl]
             go_simp
           · repeat' (first | with_reducible exact HB5.out | (with_reducible refine Below.setCell ?_ ?_ _; rotate_left; exact Nat.le_refl _)))
  · have hcb : (cv != 0) = true := by simp [hc0]
    rw [if_pos (by exact hc0)] at hR2
    have q0 := HK2.out.cell 0
    have q1 := HK2.out.cell 1
    have q2 := HK2.out.cell 2
    have g0 := HK2.out.frozen 0
    have g1 := HK2.out.frozen 1
    have g2 := HK2.out.frozen 2
    simp only [List.getElem?_toArray, List.getElem?_cons_zero, List.getElem?_cons_succ] at q0 q1 q2
    go_wp2_with fail
    (try simp only [Exit.inBlock, Exit.then])
    refine bodyPost_ret (v := .tuple #[.agg #[.int .i64 0, .int .i64 0, .int .i64 0], .int .i64 cv]) ?_ rfl ⟨by rw [hR2], ?_⟩
    · rw [results_cell_tmp rfl]
      go_simp
    · repeat' (first | with_reducible exact HB2.out | (with_reducible refine Below.setCell ?_ ?_ _; rotate_left; exact Nat.le_refl _))
end Go.Proofs.Ytnidcmhfbkdioaa
