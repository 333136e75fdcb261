/-
  The contract of world.CopyComps. Conditions: what is read can be read; at most 1048576 components and values.
-/
import Derived.Test.YtnidcmhfbkdioaaMg
namespace Go.Proofs.Ytnidcmhfbkdioaa
open Go.RowKit
set_option maxRecDepth 100000

theorem own_fullN {w : World} {base n g size : Nat} {e : TypeId} {xs : List Value} (h : w.ownsRow base e size (.slice (some ⟨g, 0, none⟩) n n) n xs) : base ≤ g ∧ Bk w g e xs.toArray := by
  rcases h.2 with ⟨hv, _⟩ | ⟨g', cap, cur, hv, hb, hh, _, _, hs, ht⟩
  · cases hv
  · injection hv with h1 h2 h3
    injection h1 with h1
    injection h1 with h1
    subst h1; subst h3
    refine ⟨hb, ?_⟩
    have e : cur.toList = xs := by rw [← ht, List.take_of_length_le (by simp [hs])]
    unfold Bk
    rw [hh, ← e]
theorem madeN (z : Value) (m : Nat) : (madeCells z.cells m).size = m := by unfold madeCells; simp

/-- A row of structs that is filled in order: the first k have been laid. -/
structure Fill (w : World) (g : Nat) (t : TypeId) (size n k : Nat) (xs : List Value) : Prop where
  bk : ∃ cs : Array Value, Bk w g t cs ∧ cs.size = n * size ∧ cs.toList.take (k * size) = xs
theorem Fill.keep {w w' : World} {B g size n k : Nat} {t : TypeId} {xs : List Value} {F : List TypeId} (h : Fill w g t size n k xs) (hq : Kx B F w w') (ht : t ∉ F) : Fill w' g t size n k xs := by
  obtain ⟨cs, h1, h2⟩ := h.bk
  exact ⟨cs, hq.bk h1 ht, h2⟩
theorem Fill.below {w w' : World} {B g size n k : Nat} {t : TypeId} {xs : List Value} (h : Fill w g t size n k xs) (hb : Below B w w') (hB : g < B) : Fill w' g t size n k xs := by
  obtain ⟨cs, h1, h2⟩ := h.bk
  exact ⟨cs, h1.below hb hB, h2⟩
theorem Fill.lt {w : World} {g size n k : Nat} {t : TypeId} {xs : List Value} (h : Fill w g t size n k xs) : g < w.heap.size := by
  obtain ⟨cs, h1, _⟩ := h.bk
  exact h1.lt
theorem Fill.at_ {w : World} {g size n k : Nat} {t : TypeId} {xs : List Value} (h : Fill w g t size n k xs) {j : Nat} (hj : j < n * size) : ∃ u, w.cell? ⟨g, j, none⟩ = some u := by
  obtain ⟨cs, h1, h2, _⟩ := h.bk
  exact ⟨_, (h1.cell j).trans (Array.getElem?_eq_getElem (by omega))⟩
theorem Fill.frozen {w : World} {g size n k : Nat} {t : TypeId} {xs : List Value} (h : Fill w g t size n k xs) (j : Nat) : w.frozen? ⟨g, j, none⟩ = false := by
  obtain ⟨cs, h1, _⟩ := h.bk
  exact h1.frozen j
theorem Fill.step2 {w : World} {g n k : Nat} {t : TypeId} {xs : List Value} (h : Fill w g t 2 n k xs) (hk : k < n) (u v : Value) : Fill ((w.setCell ⟨g, k * 2, none⟩ u).setCell ⟨g, k * 2 + 1, none⟩ v) g t 2 n (k + 1) (xs ++ [u, v]) := by
  obtain ⟨cs, h1, h2, h3⟩ := h.bk
  refine ⟨_, (h1.set_ (k * 2) u).set_ (k * 2 + 1) v, by simp [h2], ?_⟩
  rw [Array.toList_setIfInBounds, Array.toList_setIfInBounds, take_set2 u v (by rw [Array.length_toList]; omega), h3]
theorem Fill.step3 {w : World} {g n k : Nat} {t : TypeId} {xs : List Value} (h : Fill w g t 3 n k xs) (hk : k < n) (u v z : Value) : Fill (((w.setCell ⟨g, k * 3, none⟩ u).setCell ⟨g, k * 3 + 1, none⟩ v).setCell ⟨g, k * 3 + 2, none⟩ z) g t 3 n (k + 1) (xs ++ [u, v, z]) := by
  obtain ⟨cs, h1, h2, h3⟩ := h.bk
  refine ⟨_, ((h1.set_ (k * 3) u).set_ (k * 3 + 1) v).set_ (k * 3 + 2) z, by simp [h2], ?_⟩
  rw [Array.toList_setIfInBounds, Array.toList_setIfInBounds, Array.toList_setIfInBounds, take_set3 u v z (by rw [Array.length_toList]; omega), h3]
theorem Fill.made {w : World} {base g n size : Nat} {t : TypeId} {z : Value} (h : w.ownsRow base t size (.slice (some ⟨g, 0, none⟩) n n) n (madeCells z.cells (n * size)).toList) : base ≤ g ∧ Fill w g t size n 0 [] := by
  obtain ⟨h1, h2⟩ := own_fullN h
  exact ⟨h1, ⟨_, h2, by simp [madeN], by simp⟩⟩
theorem Fill.rd {w : World} {B g size n : Nat} {t : TypeId} {xs : List Value} (h : Fill w g t size n n xs) : RdY w B t size (some ⟨g, 0, none⟩) n xs := by
  obtain ⟨cs, h1, h2, h3⟩ := h.bk
  refine RdY.of_bk h1 (by rw [← h3, List.length_take, Array.length_toList]; omega) fun j u hu => ?_
  rw [← h3, List.getElem?_take] at hu
  split at hu
  · simpa using hu
  · cases hu

theorem Fill.kx2 {w : World} {B g size n k : Nat} {t : TypeId} {xs : List Value} (h : Fill w g t size n k xs) (hB : B ≤ g) (i j : Nat) (u v : Value) : Kx B [t] w ((w.setCell ⟨g, i, none⟩ u).setCell ⟨g, j, none⟩ v) := by
  obtain ⟨cs, h1, _⟩ := h.bk
  exact (Kx.refl.set h1 hB (by simp) i u).set (h1.set_ i u) hB (by simp) j v
theorem Fill.kx3 {w : World} {B g size n k : Nat} {t : TypeId} {xs : List Value} (h : Fill w g t size n k xs) (hB : B ≤ g) (i j m : Nat) (u v z : Value) : Kx B [t] w (((w.setCell ⟨g, i, none⟩ u).setCell ⟨g, j, none⟩ v).setCell ⟨g, m, none⟩ z) := by
  obtain ⟨cs, h1, _⟩ := h.bk
  exact ((Kx.refl.set h1 hB (by simp) i u).set (h1.set_ i u) hB (by simp) j v).set ((h1.set_ i u).set_ j v) hB (by simp) m z
theorem T.infoCm : (Try.prog.info? 166).map (fun i => (i.zero, i.size, i.bytes)) = some (some (.agg #[.int .i64 0, .slice none 0 0]), 2, 32) := by kernel_rfl

set_option maxHeartbeats 1600000 in
theorem copyComps_any {w : World} {B n c : Nat} {A : Option Addr} {l : List Cm} (h : CsOk w B A n c l) (hn : n ≤ 1048576) (hv : ∀ x ∈ l, x.n ≤ 1048576) :
    Calls Try.prog 170 #[.slice A n c] w fun e w' => ∃ g l', e = .returned (.slice (some ⟨g, 0, none⟩) n n) ∧ CsY w' 0 (some ⟨g, 0, none⟩) n n l' ∧ l'.map Cm.p = l.map Cm.p ∧ Below w.heap.size w w' := by
  obtain ⟨i0, hi0, hz0, hz1, hz2⟩ := info_parts T.infoCm
  have hlo := h.lo
  have hcap := h.cap
  have hcap2 := h.cap2
  have HC := Lib.hid h
  have HV := Lib.hid hv
  clear h hv
  go_enter Try.func170, Try.ntmps170
  go_wp2_with
    (at_make
     go_must (refine wpList_make_full _ rfl _ _ 38 rfl w.heap.size 166 i0 (.agg #[.int .i64 0, .slice none 0 0]) 2 Try.underlying38 hi0 hz0 hz1 .i64 .i64 _ _ n rfl rfl rfl rfl (by rw [hz2]; omega) (by unfold maxLen; omega) (Nat.le_refl _) ?_)
     go_loud (
       intro w3 hown3 hg3
       obtain ⟨hgc, hf3⟩ := Fill.made hown3
       have hb3 := (Below.refl w.heap.size w).grown hg3 (Nat.le_refl _) (fun q hq => by cases hq)
       clear hown3 hg3))
  obtain ⟨gO, hgO⟩ : ∃ g, g = w.heap.size := ⟨_, rfl⟩
  rw [← hgO] at hf3 ⊢
  have hgc : w.heap.size ≤ gO := by omega
  have HI0 : Hid (Fill w3 gO 166 2 n 0 (cmCs []) ∧ Below w.heap.size w w3) := Lib.hid ⟨hf3, hb3⟩
  have HGO := Lib.hid hgO
  clear hf3 hb3 hgO
  go_loopw [11] (fun iv wr => ∃ (k : Nat) (l1 : List Cm), k ≤ n ∧ iv = .int .i64 k ∧ Hid (Fill wr gO 166 2 n k (cmCs l1) ∧ Below w.heap.size w wr) ∧ Hid (l1.map Cm.p = (l.take k).map Cm.p ∧ ∀ x ∈ l1, CmY wr 0 x)) (fun iv _ => n - (intOf iv).toNat)
  case atStart => exact ⟨0, [], Nat.zero_le _, rfl, HI0, Lib.hid ⟨rfl, (fun x hx => by cases hx)⟩⟩
  case round =>
    clear HI0
    obtain ⟨k, l1, hk, rfl, HI, HL⟩ := hrel
    by_cases hlt : k < n
    · have hkz : (k : Int) < n := by omega
      obtain ⟨x, hx⟩ : ∃ x, l[k]? = some x := ⟨_, List.getElem?_eq_getElem (by have := HC.out.len; omega)⟩
      have hcw := HC.out.below (HI.out.2.mono hlo)
      have hxo := hcw.ok x (List.mem_of_getElem? hx)
      have hxs := HV.out x (List.mem_of_getElem? hx)
      obtain ⟨b, o, rfl, hbb, q0, q1⟩ := hcw.rd.cm hlt hx
      have hcl := fun wx (hb : Below B wr wx) (hB : B ≤ wx.heap.size) => cloneInts_any x.A x.n x.c B (x.vals.map (Value.int .i64)) wx (hxo.rd.below hb) (by intro u hu; obtain ⟨z, _, rfl⟩ := List.mem_map.1 hu; rfl) hB (by omega)
      have HCL := Lib.hid hcl
      have HX := Lib.hid (And.intro hx hxo)
      clear hx hcw hxo hcl
      generalize hxk : x.k = xk at *
      generalize hxA : x.A = xA at *
      generalize hxn : x.n = xn at *
      generalize hxc : x.c = xc at *
      have HXV := Lib.hid (And.intro hxk (And.intro hxA (And.intro hxn hxc)))
      clear hxk hxA hxn hxc
      go_wp2_with fail
      have hb1 := (Below.refl wr.heap.size wr).alloc (Nat.le_refl _) (.cells #[.int .i64 xk, .slice xA xn xc] 166)
      have hh1 := Bk.new wr 166 #[.int .i64 xk, .slice xA xn xc]
      have hO1 := HI.out.1.below (hb1) HI.out.1.lt
      have hw1 := HI.out.2.trans (hb1.mono HI.out.2.size)
      have hgh : gO < wr.heap.size := HI.out.1.lt
      have hB1 : B ≤ wr.heap.size := Nat.le_trans hlo HI.out.2.size
      have hbB : Below B wr (wr.alloc (.cells #[.int .i64 xk, .slice xA xn xc] 166)) := hb1.mono hB1
      have HB1 := Lib.hid hb1
      clear hb1 q0 q1
      generalize wr.alloc (.cells #[.int .i64 xk, .slice xA xn xc] 166) = W1 at *
      generalize hhh : wr.heap.size = hh at *
      have hgh2 : hh ≠ gO := by omega
      have s1 : W1.drew.cell? ⟨hh, 0, none⟩ = some (.int .i64 xk) ∧ W1.drew.cell? ⟨hh, 1, none⟩ = some (.slice xA xn xc) := ⟨hh1.cell 0, hh1.cell 1⟩
      have HH1 := Lib.hid hh1
      have HO1 := Lib.hid hO1
      have HW1 := Lib.hid hw1
      have hw1s := hh1.lt
      have hB2 : B ≤ W1.drew.heap.size := Nat.le_trans hB1 (Nat.le_of_lt hw1s)
      clear hh1 hO1 hw1
      go_region_held3 (fun wx => wx.cell? ⟨hh, 0, none⟩ = some (.int .i64 xk) ∧ wx.cell? ⟨hh, 1, none⟩ = some (.slice xA xn xc))
        (first | (with_reducible exact s1) | (with_reducible exact s3) | (with_reducible exact s4) | go_keep)
        (first
          | (go_at_call 103
             (with_reducible refine (HCL.out _ hbB.drew hB2).mono ?_)
             rintro e w3 ⟨A3, c3, rfl, hown3, hb3⟩
             have hh3 := HH1.out.drew.below hb3 HH1.out.lt
             have hO3 := Fill.below (w := W1.drew) (HO1.out.keep (F := []) (Kx.refl (B := 0) |>.drew) (by simp)) hb3 (by have := HO1.out.lt; exact this)
             have s3 : w3.cell? ⟨hh, 0, none⟩ = some (.int .i64 xk) ∧ w3.cell? ⟨hh, 1, none⟩ = some (.slice xA xn xc) := ⟨hh3.cell 0, hh3.cell 1⟩
             have hh4 := (hh3.far (p := ⟨gO, k * 2, none⟩) hgh2 (.int .i64 xk)).far (p := ⟨gO, k * 2 + 1, none⟩) hgh2 (.slice A3 xn c3)
             have s4 : ((w3.setCell ⟨gO, k * 2, none⟩ (.int .i64 xk)).setCell ⟨gO, k * 2 + 1, none⟩ (.slice A3 xn c3)).cell? ⟨hh, 0, none⟩ = some (.int .i64 xk) ∧ ((w3.setCell ⟨gO, k * 2, none⟩ (.int .i64 xk)).setCell ⟨gO, k * 2 + 1, none⟩ (.slice A3 xn c3)).cell? ⟨hh, 1, none⟩ = some (.slice xA xn xc) := ⟨hh4.cell 0, hh4.cell 1⟩
             obtain ⟨u0, o0⟩ := hO3.at_ (j := k * 2) (by omega)
             obtain ⟨u1, o1⟩ := hO3.at_ (j := k * 2 + 1) (by omega)
             have p0 := hO3.frozen (k * 2)
             have p1 := hO3.frozen (k * 2 + 1)
             have hI4 := hO3.step2 hlt (.int .i64 xk) (.slice A3 xn c3)
             have hw4 : Below w.heap.size w ((w3.setCell ⟨gO, k * 2, none⟩ (.int .i64 xk)).setCell ⟨gO, k * 2 + 1, none⟩ (.slice A3 xn c3)) := ((HW1.out.trans ((show Below W1.heap.size W1 w3 from ⟨hb3.os, hb3.tape, hb3.output, hb3.size, hb3.block⟩).mono HW1.out.size)).setCell (p := ⟨gO, k * 2, none⟩) hgc _).setCell (p := ⟨gO, k * 2 + 1, none⟩) hgc _
             have HI4 := Lib.hid (And.intro hI4 hw4)
             have HN3 := Lib.hid (And.intro hown3 hb3)
             have HO3 := Lib.hid hO3
             clear hb3 hh3 hO3 hh4 hI4 hw4 hown3))
      have hkx : Kx 0 [166] wr ((w3.setCell ⟨gO, k * 2, none⟩ (.int .i64 xk)).setCell ⟨gO, k * 2 + 1, none⟩ (.slice A3 xn c3)) := ((Kx.refl.below (show Below wr.heap.size wr W1 by rw [hhh]; exact HB1.out)).drew.below (w' := W1.drew) HN3.out.2).trans (HO3.out.kx2 (Nat.zero_le _) _ _ _ _)
      have hkx3 : Kx 0 [166] w3 ((w3.setCell ⟨gO, k * 2, none⟩ (.int .i64 xk)).setCell ⟨gO, k * 2 + 1, none⟩ (.slice A3 xn c3)) := HO3.out.kx2 (Nat.zero_le _) _ _ _ _
      have hcp := own_cap2 HN3.out.1
      have hyy : CmY ((w3.setCell ⟨gO, k * 2, none⟩ (.int .i64 xk)).setCell ⟨gO, k * 2 + 1, none⟩ (.slice A3 xn c3)) 0 ⟨xk, A3, xn, c3, x.vals⟩ :=
        ⟨(RdY.of_own HN3.out.1).keep hkx3 (by decide), by have := HX.out.2.len; rw [HXV.out.2.2.1] at this; exact this, hcp.1, hcp.2, by rw [← HXV.out.1]; exact HX.out.2.wf⟩
      have HLN : Hid ((l1 ++ [(⟨xk, A3, xn, c3, x.vals⟩ : Cm)]).map Cm.p = (l.take (k + 1)).map Cm.p ∧ ∀ y ∈ l1 ++ [(⟨xk, A3, xn, c3, x.vals⟩ : Cm)], CmY ((w3.setCell ⟨gO, k * 2, none⟩ (.int .i64 xk)).setCell ⟨gO, k * 2 + 1, none⟩ (.slice A3 xn c3)) 0 y) := Lib.hid ⟨by
        rw [List.take_add_one, HX.out.1, List.map_append, HL.out.1, List.map_append, ← HXV.out.1]; rfl, fun y hy => by
        rcases List.mem_append.1 hy with hy | hy
        · exact (HL.out.2 y hy).keep hkx (by decide)
        · rw [show y = ⟨xk, A3, xn, c3, x.vals⟩ by simpa using hy]; exact hyy⟩
      have HIN : Hid (Fill ((w3.setCell ⟨gO, k * 2, none⟩ (.int .i64 xk)).setCell ⟨gO, k * 2 + 1, none⟩ (.slice A3 xn c3)) gO 166 2 n (k + 1) (cmCs (l1 ++ [(⟨xk, A3, xn, c3, x.vals⟩ : Cm)])) ∧ Below w.heap.size w ((w3.setCell ⟨gO, k * 2, none⟩ (.int .i64 xk)).setCell ⟨gO, k * 2 + 1, none⟩ (.slice A3 xn c3))) := Lib.hid (by
        rw [show cmCs (l1 ++ [(⟨xk, A3, xn, c3, x.vals⟩ : Cm)]) = cmCs l1 ++ [.int .i64 xk, .slice A3 xn c3] by simp [cmCs, Cm.cs]]
        exact HI4.out)
      clear hkx hkx3 hcp hyy HI4 HO3 HN3
      go_wp2_with fail
      go_roundw
      case rel => exact ⟨k + 1, l1 ++ [(⟨xk, A3, xn, c3, x.vals⟩ : Cm)], by omega, by go_num, HIN, HLN⟩
      case measure => simp [intOf]; omega
    · obtain rfl : n = k := by omega
      have HLL := HL.out.1
      rw [List.take_of_length_le (by rw [← HC.out.len]; omega)] at HLL
      have HLP := Lib.hid HLL
      clear HLL
      go_wp2_with fail
      go_ret
      have hlen : n = l1.length := by have h := congrArg List.length HLP.out; rw [List.length_map, List.length_map] at h; rw [h]; exact HC.out.len
      exact ⟨gO, l1, rfl, ⟨HI.out.1.rd, hlen, Nat.le_refl _, by omega, HL.out.2⟩, HLP.out, HI.out.2⟩
end Go.Proofs.Ytnidcmhfbkdioaa
