/-
  The contract of the closure of tourref4.Merged. Conditions: what is read can be read.
-/
import Derived.Test.YtnidcmhfbkdioaaOc
import Derived.Test.YtnidcmhfbkdioaaMe
namespace Go.Proofs.Ytnidcmhfbkdioaa
open Go.RowKit
set_option maxRecDepth 100000

/-- One place of the arrays of Merged: an entity, or none. -/
structure ArrV (w : World) (B bi bt j : Nat) (x : It) (b : Bool) (o : Option Iv) : Prop where
  ci : w.cell? ⟨bi, j, none⟩ = some (.bool b)
  c0 : w.cell? ⟨bt, j * 3, none⟩ = some (.int .i64 x.e)
  c1 : w.cell? ⟨bt, j * 3 + 1, none⟩ = some (.int .i64 x.g)
  c2 : w.cell? ⟨bt, j * 3 + 2, none⟩ = some (.slice x.A x.n x.c)
  ok : ItOk w B x
  is : (b = true ∧ o = some x.p) ∨ (b = false ∧ o = none ∧ x.p = ((0, 0), []))
theorem ArrV.eq {w : World} {B bi bt j j' : Nat} {x y : It} {b b' : Bool} {o o' : Option Iv} (h : ArrV w B bi bt j x b o) (h' : ArrV w B bi bt j' y b' o') : decide (o = o') = decide (b = b' ∧ x.p = y.p) := by
  rw [decide_eq_decide]
  rcases h.is with ⟨rfl, rfl⟩ | ⟨rfl, rfl, e1⟩ <;> rcases h'.is with ⟨rfl, rfl⟩ | ⟨rfl, rfl, e2⟩
  · simp
  · simp
  · simp
  · simp [e1, e2]

set_option maxHeartbeats 1600000 in
theorem clo112_any (i k : Int) (i' k' bi bt B : Nat) (x y : It) (b b' : Bool) (o o' : Option Iv) (w : World) (hi : i = i') (hk : k = k') (hi3 : i' < 3) (hk3 : k' < 3) (hbi : bi < w.heap.size) (hbt : bt < w.heap.size)
    (hx : ArrV w B bi bt i' x b o) (hy : ArrV w B bi bt k' y b' o') :
    Calls Try.prog 112 #[.int .i64 i, .int .i64 k, .pointer (some ⟨bi, 0, none⟩), .pointer (some ⟨bt, 0, none⟩)] w fun e w' => e = .returned (.bool (decide (o = o'))) ∧ Below w.heap.size w w' := by
  subst hi
  subst hk
  rw [hx.eq hy]
  obtain ⟨xe, xg, xA, xn, xc, xv⟩ := x
  obtain ⟨ye, yg, yA, yn, yc, yv⟩ := y
  have hi0 : (0 : Int) ≤ i' := by omega
  have hk0 : (0 : Int) ≤ k' := by omega
  have hi3' : (i' : Int) < 3 := by omega
  have hk3' : (k' : Int) < 3 := by omega
  have E := eq128 xe xg ye yg
  have ci := hx.ci
  have c0 : w.cell? ⟨bt, i' * 3, none⟩ = some (.int .i64 xe) := hx.c0
  have c1 : w.cell? ⟨bt, i' * 3 + 1, none⟩ = some (.int .i64 xg) := hx.c1
  have c2 : w.cell? ⟨bt, i' * 3 + 2, none⟩ = some (.slice xA xn xc) := hx.c2
  have di := hy.ci
  have d0 : w.cell? ⟨bt, k' * 3, none⟩ = some (.int .i64 ye) := hy.c0
  have d1 : w.cell? ⟨bt, k' * 3 + 1, none⟩ = some (.int .i64 yg) := hy.c1
  have d2 : w.cell? ⟨bt, k' * 3 + 2, none⟩ = some (.slice yA yn yc) := hy.c2
  have heq := sameCompsR_any (w := w.drew) (hx.ok.cs.below ((Below.refl _ _).drew)) (hy.ok.cs.below ((Below.refl _ _).drew))
  dsimp only at heq
  clear hx hy
  by_cases hb : b = b'
  · subst hb
    have t0 : (b == b) = true := by simp
    by_cases hk : xe = ye ∧ xg = yg
    · have hd : decide (b = b ∧ (⟨xe, xg, xA, xn, xc, xv⟩ : It).p = (⟨ye, yg, yA, yn, yc, yv⟩ : It).p) = decide (xv.map Cm.p = yv.map Cm.p) := by
        rw [decide_eq_decide]; unfold It.p; obtain ⟨rfl, rfl⟩ := hk; simp
      rw [hd]
      rw [decide_eq_true hk] at E
      clear hd hk
      obtain ⟨d, hd⟩ : ∃ d, d = decide (xv.map Cm.p = yv.map Cm.p) := ⟨_, rfl⟩
      rw [← hd] at heq ⊢
      clear hd
      have HEQ := Lib.hid heq
      clear heq
      go_enter Try.func112, Try.ntmps112
      go_wp2_with fail
      have s0 : w.drew.cell? ⟨bi, i', none⟩ = some (.bool b) ∧ w.drew.cell? ⟨bi, k', none⟩ = some (.bool b) ∧ w.drew.cell? ⟨bt, i' * 3, none⟩ = some (.int .i64 xe) ∧ w.drew.cell? ⟨bt, i' * 3 + 1, none⟩ = some (.int .i64 xg) ∧ w.drew.cell? ⟨bt, i' * 3 + 2, none⟩ = some (.slice xA xn xc) ∧ w.drew.cell? ⟨bt, k' * 3, none⟩ = some (.int .i64 ye) ∧ w.drew.cell? ⟨bt, k' * 3 + 1, none⟩ = some (.int .i64 yg) ∧ w.drew.cell? ⟨bt, k' * 3 + 2, none⟩ = some (.slice yA yn yc) := ⟨ci, di, c0, c1, c2, d0, d1, d2⟩
      go_region_held3 (fun wx => wx.cell? ⟨bi, i', none⟩ = some (.bool b) ∧ wx.cell? ⟨bi, k', none⟩ = some (.bool b) ∧ wx.cell? ⟨bt, i' * 3, none⟩ = some (.int .i64 xe) ∧ wx.cell? ⟨bt, i' * 3 + 1, none⟩ = some (.int .i64 xg) ∧ wx.cell? ⟨bt, i' * 3 + 2, none⟩ = some (.slice xA xn xc) ∧ wx.cell? ⟨bt, k' * 3, none⟩ = some (.int .i64 ye) ∧ wx.cell? ⟨bt, k' * 3 + 1, none⟩ = some (.int .i64 yg) ∧ wx.cell? ⟨bt, k' * 3 + 2, none⟩ = some (.slice yA yn yc))
        (first | (with_reducible exact s0) | (with_reducible exact s3) | go_keep)
        (first
          | (go_at_call 113
             (with_reducible refine HEQ.out.mono ?_)
             rintro e w3 ⟨rfl, hb3⟩
             have s3 : w3.cell? ⟨bi, i', none⟩ = some (.bool b) ∧ w3.cell? ⟨bi, k', none⟩ = some (.bool b) ∧ w3.cell? ⟨bt, i' * 3, none⟩ = some (.int .i64 xe) ∧ w3.cell? ⟨bt, i' * 3 + 1, none⟩ = some (.int .i64 xg) ∧ w3.cell? ⟨bt, i' * 3 + 2, none⟩ = some (.slice xA xn xc) ∧ w3.cell? ⟨bt, k' * 3, none⟩ = some (.int .i64 ye) ∧ w3.cell? ⟨bt, k' * 3 + 1, none⟩ = some (.int .i64 yg) ∧ w3.cell? ⟨bt, k' * 3 + 2, none⟩ = some (.slice yA yn yc) := ⟨(hb3.cell (p := ⟨bi, i', none⟩) hbi).trans ci, (hb3.cell (p := ⟨bi, k', none⟩) hbi).trans di, (hb3.cell (p := ⟨bt, i' * 3, none⟩) hbt).trans c0, (hb3.cell (p := ⟨bt, i' * 3 + 1, none⟩) hbt).trans c1, (hb3.cell (p := ⟨bt, i' * 3 + 2, none⟩) hbt).trans c2, (hb3.cell (p := ⟨bt, k' * 3, none⟩) hbt).trans d0, (hb3.cell (p := ⟨bt, k' * 3 + 1, none⟩) hbt).trans d1, (hb3.cell (p := ⟨bt, k' * 3 + 2, none⟩) hbt).trans d2⟩
             have hb4 : Below w.heap.size w w3 := (Below.refl _ _).drew.trans hb3
             clear hb3))
      go_wp2_with fail
      go_ret
      exact ⟨ret_b (by simp), hb4⟩
    · have hd : decide (b = b ∧ (⟨xe, xg, xA, xn, xc, xv⟩ : It).p = (⟨ye, yg, yA, yn, yc, yv⟩ : It).p) = false := by
        rw [decide_eq_false]; unfold It.p; rintro ⟨_, e⟩; injection e with e _; injection e with e1 e2; exact hk ⟨e1, e2⟩
      rw [hd]
      rw [decide_eq_false hk] at E
      clear hd hk heq
      go_enter Try.func112, Try.ntmps112
      go_wp2_with fail
      go_quiet (fail)
      go_wp2_with fail
      go_ret
      exact ⟨rfl, below_dn (Below.refl _ _) _⟩
  · have hd : decide (b = b' ∧ (⟨xe, xg, xA, xn, xc, xv⟩ : It).p = (⟨ye, yg, yA, yn, yc, yv⟩ : It).p) = false := by
      rw [decide_eq_false]; rintro ⟨e, _⟩; exact hb e
    rw [hd]
    have t0 : (b == b') = false := by simp [hb]
    clear hd hb heq
    go_enter Try.func112, Try.ntmps112
    go_wp2_with fail
    go_quiet (fail)
    go_wp2_with fail
    go_ret
    exact ⟨rfl, below_dn (Below.refl _ _) _⟩
end Go.Proofs.Ytnidcmhfbkdioaa
