/-
  Looking an entity and a component up. Conditions: what is read can be read.
-/
import Derived.Test.YtnidcmhfbkdioaaMg
import Derived.Test.YtnidcmhfbkdioaaWb
namespace Go.Proofs.Ytnidcmhfbkdioaa
open Go.RowKit
set_option maxRecDepth 100000

def idxF {α : Type} (p : α → Bool) : List α → Int
  | [] => -1
  | a :: l => if p a = true then 0 else if idxF p l < 0 then -1 else idxF p l + 1
theorem idxF_ge {α : Type} (p : α → Bool) (l : List α) : -1 ≤ idxF p l := by
  induction l with
  | nil => exact Int.le_refl _
  | cons a l ih => unfold idxF; split <;> (try split) <;> omega
theorem idxF_none {α : Type} {p : α → Bool} {l : List α} (h : ∀ (j : Nat) (y : α), l[j]? = some y → p y = false) : idxF p l = -1 := by
  induction l with
  | nil => rfl
  | cons a l ih =>
    unfold idxF
    rw [if_neg (by rw [h 0 a rfl]; simp), ih fun j y hy => h (j + 1) y (by simpa using hy)]; rfl
theorem idxF_hit {α : Type} {p : α → Bool} {l : List α} {k : Nat} {x : α} (hx : l[k]? = some x) (hp : p x = true) (h : ∀ (j : Nat) (y : α), j < k → l[j]? = some y → p y = false) : idxF p l = (k : Int) := by
  induction l generalizing k with
  | nil => simp at hx
  | cons a l ih =>
    unfold idxF
    cases k with
    | zero =>
      have e : a = x := by simpa using hx
      rw [e, if_pos hp]; rfl
    | succ k =>
      have e := ih (k := k) (by simpa using hx) fun j y hj hy => h (j + 1) y (by omega) (by simpa using hy)
      rw [if_neg (by rw [h 0 a (by omega) rfl]; simp), e, if_neg (by omega)]; omega
theorem idx_cm (l : List Cm) (N : Int) : (∃ (i : Nat) (x : Cm), l[i]? = some x ∧ x.k = N ∧ idxF (fun x : Cm => decide (x.k = N)) l = (i : Int) ∧ findC (l.map Cm.p) N = some x.vals) ∨ (idxF (fun x : Cm => decide (x.k = N)) l = -1 ∧ findC (l.map Cm.p) N = none) := by
  induction l with
  | nil => exact .inr ⟨rfl, rfl⟩
  | cons a l ih =>
    rw [List.map_cons, findC_cons]
    by_cases h : a.k = N
    · exact .inl ⟨0, a, rfl, h, by unfold idxF; rw [if_pos (decide_eq_true h)]; rfl, if_pos h⟩
    · have hn : ¬ (decide (a.k = N) = true) := by simp [h]
      rcases ih with ⟨i, x, h1, h2, h3, h4⟩ | ⟨h3, h4⟩
      · refine .inl ⟨i + 1, x, by simpa using h1, h2, ?_, by rw [if_neg (show ¬ (Cm.p a).1 = N from h)]; exact h4⟩
        unfold idxF
        rw [if_neg hn, h3, if_neg (by omega)]; omega
      · refine .inr ⟨?_, by rw [if_neg (show ¬ (Cm.p a).1 = N from h)]; exact h4⟩
        unfold idxF
        rw [if_neg hn, h3]; rfl
theorem idx_it (l : List It) (N : Int) : (∃ (i : Nat) (x : It), l[i]? = some x ∧ x.e = N ∧ idxF (fun x : It => decide (x.e = N)) l = (i : Int) ∧ findI (l.map It.p) N = some x.p) ∨ (idxF (fun x : It => decide (x.e = N)) l = -1 ∧ findI (l.map It.p) N = none) := by
  induction l with
  | nil => exact .inr ⟨rfl, rfl⟩
  | cons a l ih =>
    rw [List.map_cons, findI_cons]
    by_cases h : a.e = N
    · exact .inl ⟨0, a, rfl, h, by unfold idxF; rw [if_pos (decide_eq_true h)]; rfl, if_pos h⟩
    · have hn : ¬ (decide (a.e = N) = true) := by simp [h]
      rcases ih with ⟨i, x, h1, h2, h3, h4⟩ | ⟨h3, h4⟩
      · refine .inl ⟨i + 1, x, by simpa using h1, h2, ?_, by rw [if_neg (show ¬ (It.p a).1.1 = N from h)]; exact h4⟩
        unfold idxF
        rw [if_neg hn, h3, if_neg (by omega)]; omega
      · refine .inr ⟨?_, by rw [if_neg (show ¬ (It.p a).1.1 = N from h)]; exact h4⟩
        unfold idxF
        rw [if_neg hn, h3]; rfl

theorem clo242_any (xk : Int) (xA : Option Addr) (xn : Nat) (xc : Nat) (gb : Nat) (N : Int) (w : World) (hb : w.cell? ⟨gb, 0, none⟩ = some (.int .i64 N)) (hgb : gb < w.heap.size) :
    Calls Try.prog 242 #[.agg #[.int .i64 xk, .slice xA xn xc], .pointer (some ⟨gb, 0, none⟩)] w fun e w' => e = .returned (.bool (decide (xk = N))) ∧ Below w.heap.size w w' := by
  have hb1 : (w.alloc (.cells #[.int .i64 xk, .slice xA xn xc] 166)).cell? ⟨gb, 0, none⟩ = some (.int .i64 N) := (((Below.refl w.heap.size w).alloc (Nat.le_refl _) _).cell (p := ⟨gb, 0, none⟩) hgb).trans hb
  have HB := Lib.hid ((Below.refl w.heap.size w).alloc (Nat.le_refl _) (.cells #[.int .i64 xk, .slice xA xn xc] 166))
  obtain ⟨d, hd⟩ : ∃ d, d = decide (xk = N) := ⟨_, rfl⟩
  have t0 : (xk == N) = d := by rw [hd]; rw [Bool.eq_iff_iff]; simp
  rw [← hd]
  clear hb hd
  cases d
  all_goals
    go_enter Try.func242, Try.ntmps242
    go_wp2_with fail
    go_ret
    exact ⟨rfl, HB.out⟩

set_option maxHeartbeats 1600000 in
theorem idxCm_any {w : World} {B n c : Nat} {A : Option Addr} {l : List Cm} (gb : Nat) (N : Int) (h : CsOk w B A n c l) (hb : w.cell? ⟨gb, 0, none⟩ = some (.int .i64 N)) (hgb : gb < w.heap.size) :
    Calls Try.prog 212 #[.slice A n c, .func (.func 242) #[] #[.pointer (some ⟨gb, 0, none⟩)]] w fun e w' => e = .returned (.int .i64 (idxF (fun x : Cm => decide (x.k = N)) l)) ∧ Below w.heap.size w w' := by
  obtain ⟨R, hR⟩ : ∃ R, R = idxF (fun x : Cm => decide (x.k = N)) l := ⟨_, rfl⟩
  rw [← hR]
  have HR := Lib.hid hR
  have HK := Lib.hid h
  have HB := Lib.hid hb
  have hB := h.lo
  have hcap := h.cap
  have hcap2 := h.cap2
  clear h hR hb
  go_enter Try.func212, Try.ntmps212
  go_wp2_with fail
  go_loopw [8] (fun i wr => ∃ k : Nat, k ≤ n ∧ i = .int .i64 k ∧ Hid (∀ j x, j < k → l[j]? = some x → x.k ≠ N) ∧ Hid (Below w.heap.size w wr)) (fun i _ => n - (intOf i).toNat)
  case atStart => exact ⟨0, Nat.zero_le _, rfl, Lib.hid (fun j x hj => by omega), Lib.hid (Below.refl _ _)⟩
  case round =>
    obtain ⟨k, hk, rfl, HT, HW⟩ := hrel
    by_cases hlt : k < n
    · obtain ⟨x, hx⟩ : ∃ x, l[k]? = some x := ⟨_, List.getElem?_eq_getElem (by have := HK.out.len; omega)⟩
      obtain ⟨b, o, rfl, hbb, q0, q1⟩ := (HK.out.below (HW.out.mono hB)).rd.cm hlt hx
      have hcl := clo242_any x.k x.A x.n x.c gb N wr ((HW.out.cell (p := ⟨gb, 0, none⟩) hgb).trans HB.out) (by have := HW.out.size; omega)
      obtain ⟨d, hd⟩ : ∃ d, d = decide (x.k = N) := ⟨_, rfl⟩
      rw [← hd] at hcl
      have HCL := Lib.hid hcl
      have HX := Lib.hid hx
      have HD := Lib.hid hd
      have hkn : (k : Int) < n := by omega
      have hk0 : (0 : Int) ≤ k := by omega
      clear hx hcl hd
      generalize hx_k : x.k = xk at *
      generalize hx_A : x.A = xA at *
      generalize hx_n : x.n = xn at *
      generalize hx_c : x.c = xc at *
      have HKE := Lib.hid hx_k
      clear hx_k hx_A hx_n hx_c
      go_wp2_with fail
      (with_reducible refine HCL.out.mono ?_)
      rintro e w3 ⟨rfl, hb3⟩
      have HB3 := Lib.hid (HW.out.trans (hb3.mono HW.out.size))
      clear hb3
      cases d
      · go_wp2_with fail
        go_roundw
        case measure => simp [intOf]; omega
        case rel => exact ⟨k + 1, by omega, by go_num, Lib.hid (fun j y hj hy => by
          rcases Nat.lt_or_ge j k with h | h
          · exact HT.out j y h hy
          · obtain rfl : j = k := by omega
            rw [HX.out] at hy
            injection hy with hy
            rw [← hy, HKE.out]; exact of_decide_eq_false HD.out.symm), HB3⟩
      · go_wp2_with fail
        go_ret
        rw [HR.out, idxF_hit HX.out (by rw [HKE.out]; exact HD.out.symm) fun j y hj hy => decide_eq_false (HT.out j y hj hy)]
        exact ⟨rfl, HB3.out⟩
    · obtain rfl : n = k := by omega
      go_wp2_with fail
      go_ret
      rw [HR.out, idxF_none fun j y hy => decide_eq_false (HT.out j y (by have := (List.getElem?_eq_some_iff.1 hy).1; have := HK.out.len; omega) hy)]
      exact ⟨rfl, HW.out⟩

theorem clo214_any (xe : Int) (xg : Int) (xA : Option Addr) (xn : Nat) (xc : Nat) (gb : Nat) (N : Int) (w : World) (hb : w.cell? ⟨gb, 0, none⟩ = some (.int .i64 N)) (hgb : gb < w.heap.size) :
    Calls Try.prog 214 #[.agg #[.int .i64 xe, .int .i64 xg, .slice xA xn xc], .pointer (some ⟨gb, 0, none⟩)] w fun e w' => e = .returned (.bool (decide (xe = N))) ∧ Below w.heap.size w w' := by
  have hb1 : (w.alloc (.cells #[.int .i64 xe, .int .i64 xg, .slice xA xn xc] 147)).cell? ⟨gb, 0, none⟩ = some (.int .i64 N) := (((Below.refl w.heap.size w).alloc (Nat.le_refl _) _).cell (p := ⟨gb, 0, none⟩) hgb).trans hb
  have HB := Lib.hid ((Below.refl w.heap.size w).alloc (Nat.le_refl _) (.cells #[.int .i64 xe, .int .i64 xg, .slice xA xn xc] 147))
  obtain ⟨d, hd⟩ : ∃ d, d = decide (xe = N) := ⟨_, rfl⟩
  have t0 : (xe == N) = d := by rw [hd]; rw [Bool.eq_iff_iff]; simp
  rw [← hd]
  clear hb hd
  cases d
  all_goals
    go_enter Try.func214, Try.ntmps214
    go_wp2_with fail
    go_ret
    exact ⟨rfl, HB.out⟩

set_option maxHeartbeats 1600000 in
theorem idxIt_any {w : World} {B n c : Nat} {A : Option Addr} {l : List It} (gb : Nat) (N : Int) (h : IsOk w B A n c l) (hb : w.cell? ⟨gb, 0, none⟩ = some (.int .i64 N)) (hgb : gb < w.heap.size) :
    Calls Try.prog 68 #[.slice A n c, .func (.func 214) #[] #[.pointer (some ⟨gb, 0, none⟩)]] w fun e w' => e = .returned (.int .i64 (idxF (fun x : It => decide (x.e = N)) l)) ∧ Below w.heap.size w w' := by
  obtain ⟨R, hR⟩ : ∃ R, R = idxF (fun x : It => decide (x.e = N)) l := ⟨_, rfl⟩
  rw [← hR]
  have HR := Lib.hid hR
  have HK := Lib.hid h
  have HB := Lib.hid hb
  have hB := h.lo
  have hcap := h.cap
  have hcap2 := h.cap2
  clear h hR hb
  go_enter Try.func68, Try.ntmps68
  go_wp2_with fail
  go_loopw [8] (fun i wr => ∃ k : Nat, k ≤ n ∧ i = .int .i64 k ∧ Hid (∀ j x, j < k → l[j]? = some x → x.e ≠ N) ∧ Hid (Below w.heap.size w wr)) (fun i _ => n - (intOf i).toNat)
  case atStart => exact ⟨0, Nat.zero_le _, rfl, Lib.hid (fun j x hj => by omega), Lib.hid (Below.refl _ _)⟩
  case round =>
    obtain ⟨k, hk, rfl, HT, HW⟩ := hrel
    by_cases hlt : k < n
    · obtain ⟨x, hx⟩ : ∃ x, l[k]? = some x := ⟨_, List.getElem?_eq_getElem (by have := HK.out.len; omega)⟩
      obtain ⟨b, o, rfl, hbb, q0, q1, q2⟩ := (HK.out.below (HW.out.mono hB)).rd.it hlt hx
      have hcl := clo214_any x.e x.g x.A x.n x.c gb N wr ((HW.out.cell (p := ⟨gb, 0, none⟩) hgb).trans HB.out) (by have := HW.out.size; omega)
      obtain ⟨d, hd⟩ : ∃ d, d = decide (x.e = N) := ⟨_, rfl⟩
      rw [← hd] at hcl
      have HCL := Lib.hid hcl
      have HX := Lib.hid hx
      have HD := Lib.hid hd
      have hkn : (k : Int) < n := by omega
      have hk0 : (0 : Int) ≤ k := by omega
      clear hx hcl hd
      generalize hx_e : x.e = xe at *
      generalize hx_g : x.g = xg at *
      generalize hx_A : x.A = xA at *
      generalize hx_n : x.n = xn at *
      generalize hx_c : x.c = xc at *
      have HKE := Lib.hid hx_e
      clear hx_e hx_g hx_A hx_n hx_c
      go_wp2_with fail
      (with_reducible refine HCL.out.mono ?_)
      rintro e w3 ⟨rfl, hb3⟩
      have HB3 := Lib.hid (HW.out.trans (hb3.mono HW.out.size))
      clear hb3
      cases d
      · go_wp2_with fail
        go_roundw
        case measure => simp [intOf]; omega
        case rel => exact ⟨k + 1, by omega, by go_num, Lib.hid (fun j y hj hy => by
          rcases Nat.lt_or_ge j k with h | h
          · exact HT.out j y h hy
          · obtain rfl : j = k := by omega
            rw [HX.out] at hy
            injection hy with hy
            rw [← hy, HKE.out]; exact of_decide_eq_false HD.out.symm), HB3⟩
      · go_wp2_with fail
        go_ret
        rw [HR.out, idxF_hit HX.out (by rw [HKE.out]; exact HD.out.symm) fun j y hj hy => decide_eq_false (HT.out j y hj hy)]
        exact ⟨rfl, HB3.out⟩
    · obtain rfl : n = k := by omega
      go_wp2_with fail
      go_ret
      rw [HR.out, idxF_none fun j y hy => decide_eq_false (HT.out j y (by have := (List.getElem?_eq_some_iff.1 hy).1; have := HK.out.len; omega) hy)]
      exact ⟨rfl, HW.out⟩

def CompP (x : It) (k : Int) (e : Ending) : Prop :=
  (∃ cm ∈ x.cms, cm.k = k ∧ findC (x.cms.map Cm.p) k = some cm.vals ∧ e = .returned (.tuple #[.slice cm.A cm.n cm.c, .bool true])) ∨ (findC (x.cms.map Cm.p) k = none ∧ e = .returned (.tuple #[.slice none 0 0, .bool false]))

set_option maxHeartbeats 800000 in
theorem comp_any {w : World} {B : Nat} (x : It) (k : Int) (h : ItOk w B x) :
    Calls Try.prog 215 #[.agg #[.int .i64 x.e, .int .i64 x.g, .slice x.A x.n x.c], .int .i64 k] w fun e w' => CompP x k e ∧ Below w.heap.size w w' := by
  obtain ⟨xe, xg, xA, xn, xc, xv⟩ := x
  have hcs : CsOk w B xA xn xc xv := h.cs
  show Calls Try.prog 215 #[.agg #[.int .i64 xe, .int .i64 xg, .slice xA xn xc], .int .i64 k] w _
  have hb1 : Below w.heap.size w ((w.alloc (.cells #[.int .i64 xe, .int .i64 xg, .slice xA xn xc] 147)).alloc (.cells #[.int .i64 k] 3)) := ((Below.refl _ _).alloc (Nat.le_refl _) _).alloc (by simp) _
  have hk1 : Bk ((w.alloc (.cells #[.int .i64 xe, .int .i64 xg, .slice xA xn xc] 147)).alloc (.cells #[.int .i64 k] 3)) w.heap.size 147 #[.int .i64 xe, .int .i64 xg, .slice xA xn xc] := (Bk.new w 147 _).alloc _
  have hk2 := Bk.two w (.cells #[.int .i64 xe, .int .i64 xg, .slice xA xn xc] 147) 3 #[.int .i64 k]
  have hidx := idxCm_any (w.heap.size + 1) k (hcs.below (hb1.mono hcs.lo)) (hk2.cell 0) hk2.lt
  have hlo := hcs.lo
  have hcap := hcs.cap
  have hcap2 := hcs.cap2
  have HB1 := Lib.hid hb1
  have HK1 := Lib.hid hk1
  rcases idx_cm xv k with ⟨i, cm, hi, hkk, hR, hf⟩ | ⟨hR, hf⟩
  · rw [hR] at hidx
    have hin : i < xn := by rw [hcs.len]; exact (List.getElem?_eq_some_iff.1 hi).1
    obtain ⟨b, o, rfl, hbb, q0, q1⟩ := hcs.rd.cm hin hi
    have HQ1 : Hid (∀ wx, Below w.heap.size w wx → wx.cell? ⟨b, o + i * 2 + 1, none⟩ = some (.slice cm.A cm.n cm.c)) := Lib.hid fun wx hx => (hx.cell (p := ⟨b, o + i * 2 + 1, none⟩) (by show b < _; omega)).trans q1
    have HX : Hid (cm ∈ xv ∧ cm.k = k ∧ findC (xv.map Cm.p) k = some cm.vals) := Lib.hid ⟨List.mem_of_getElem? hi, hkk, hf⟩
    have hi0 : (0 : Int) ≤ i := by omega
    have hin' : (i : Int) < xn := by omega
    have HIDX := Lib.hid hidx
    clear h hcs hb1 hk1 hk2 hidx q0 q1 hi hkk hR hf
    go_enter Try.func215, Try.ntmps215
    go_wp2_with fail
    (with_reducible refine HIDX.out.mono ?_)
    rintro e w3 ⟨rfl, hb3⟩
    have HB3 := Lib.hid (HB1.out.trans (hb3.mono HB1.out.size))
    have c2 : w3.cell? ⟨w.heap.size, 2, none⟩ = some (.slice (some ⟨b, o, none⟩) xn xc) := (HK1.out.below hb3 HK1.out.lt).cell 2
    have q1 := HQ1.out _ HB3.out
    clear hb3
    go_wp2_with fail
    go_ret2
    exact ⟨.inl ⟨cm, HX.out.1, HX.out.2.1, HX.out.2.2, rfl⟩, HB3.out⟩
  · rw [hR] at hidx
    have HIDX := Lib.hid hidx
    have HF := Lib.hid hf
    clear h hcs hb1 hk1 hk2 hidx hR hf
    go_enter Try.func215, Try.ntmps215
    go_wp2_with fail
    (with_reducible refine HIDX.out.mono ?_)
    rintro e w3 ⟨rfl, hb3⟩
    have HB3 := Lib.hid (HB1.out.trans (hb3.mono HB1.out.size))
    clear hb3
    go_wp2_with fail
    go_ret2
    exact ⟨.inr ⟨HF.out, rfl⟩, HB3.out⟩

def ItemP (x : Wd) (k : Int) (e : Ending) : Prop :=
  (∃ it ∈ x.its, it.e = k ∧ findI (x.its.map It.p) k = some it.p ∧ e = .returned (.tuple #[.agg #[.int .i64 it.e, .int .i64 it.g, .slice it.A it.n it.c], .bool true])) ∨ (findI (x.its.map It.p) k = none ∧ e = .returned (.tuple #[.agg #[.int .i64 0, .int .i64 0, .slice none 0 0], .bool false]))

theorem Bk.three (w : World) (o o2 : Obj) (t : TypeId) (cs : Array Value) : Bk (((w.alloc o).alloc o2).alloc (.cells cs t)) (w.heap.size + 1 + 1) t cs := by simpa using Bk.new ((w.alloc o).alloc o2) t cs

set_option maxHeartbeats 800000 in
theorem item_any {w : World} {B : Nat} (x : Wd) (k : Int) (h : WdOk w B x) :
    Calls Try.prog 171 #[x.v, .int .i64 k] w fun e w' => ItemP x k e ∧ Below w.heap.size w w' := by
  obtain ⟨kA, kn, kc, ks, gA, gn, gc, gens, iA, im, ic, its⟩ := x
  have his : IsOk w B iA im ic its := h.its
  show Calls Try.prog 171 #[.agg #[.slice kA kn kc, .slice gA gn gc, .slice iA im ic], .int .i64 k] w _
  obtain ⟨W1, hW1⟩ : ∃ W1, W1 = ((w.alloc (.cells #[.slice kA kn kc, .slice gA gn gc, .slice iA im ic] 52)).alloc (.cells #[.int .i64 k] 3)).alloc (.cells #[.int .i64 0, .int .i64 0, .slice none 0 0] 147) := ⟨_, rfl⟩
  have hb1 : Below w.heap.size w W1 := by rw [hW1]; exact (((Below.refl _ _).alloc (Nat.le_refl _) _).alloc (by simp) _).alloc (by simp; omega) _
  have hk1 : Bk W1 w.heap.size 52 #[.slice kA kn kc, .slice gA gn gc, .slice iA im ic] := by rw [hW1]; exact ((Bk.new w 52 _).alloc _).alloc _
  have hk2 : Bk W1 (w.heap.size + 1) 3 #[.int .i64 k] := by rw [hW1]; exact (Bk.two w (.cells #[.slice kA kn kc, .slice gA gn gc, .slice iA im ic] 52) 3 #[.int .i64 k]).alloc _
  have hk3 : Bk W1 (w.heap.size + 2) 147 #[.int .i64 0, .int .i64 0, .slice none 0 0] := by rw [hW1]; exact Bk.three w _ _ 147 _
  have hidx := idxIt_any (w.heap.size + 1) k (his.below (hb1.mono his.lo)) (hk2.cell 0) hk2.lt
  have hlo := his.lo
  have hcap := his.cap
  have hcap2 := his.cap2
  have HB1 := Lib.hid hb1
  have HK1 := Lib.hid hk1
  have HK3 := Lib.hid hk3
  have c1 : W1.cell? ⟨w.heap.size, 2, none⟩ = some (.slice iA im ic) := hk1.cell 2
  rcases idx_it its k with ⟨i, it, hi, hkk, hR, hf⟩ | ⟨hR, hf⟩
  · rw [hR] at hidx
    have hin : i < im := by rw [his.len]; exact (List.getElem?_eq_some_iff.1 hi).1
    obtain ⟨b, o, rfl, hbb, q0, q1, q2⟩ := his.rd.it hin hi
    have HQ1 : Hid (∀ wx, Below w.heap.size w wx → wx.cell? ⟨b, o + i * 3, none⟩ = some (.int .i64 it.e) ∧ wx.cell? ⟨b, o + i * 3 + 1, none⟩ = some (.int .i64 it.g) ∧ wx.cell? ⟨b, o + i * 3 + 2, none⟩ = some (.slice it.A it.n it.c)) := Lib.hid fun wx hx => ⟨(hx.cell (p := ⟨b, o + i * 3, none⟩) (by show b < _; omega)).trans q0, (hx.cell (p := ⟨b, o + i * 3 + 1, none⟩) (by show b < _; omega)).trans q1, (hx.cell (p := ⟨b, o + i * 3 + 2, none⟩) (by show b < _; omega)).trans q2⟩
    have HX : Hid (∃ it' ∈ its, it'.e = k ∧ findI (its.map It.p) k = some it'.p ∧ Ending.returned (.tuple #[.agg #[.int .i64 it.e, .int .i64 it.g, .slice it.A it.n it.c], .bool true]) = .returned (.tuple #[.agg #[.int .i64 it'.e, .int .i64 it'.g, .slice it'.A it'.n it'.c], .bool true])) := Lib.hid ⟨it, List.mem_of_getElem? hi, hkk, hf, rfl⟩
    have hi0 : (0 : Int) ≤ i := by omega
    have hin' : (i : Int) < im := by omega
    have HIDX := Lib.hid hidx
    generalize it.e = te at *
    generalize it.g = tg at *
    generalize it.A = tA at *
    generalize it.n = tn at *
    generalize it.c = tc at *
    clear h his hb1 hk1 hk2 hk3 hidx q0 q1 q2 hi hkk hR hf
    go_enter Try.func171, Try.ntmps171
    go_wp2_with fail
    rw [← hW1]
    clear hW1
    (with_reducible refine HIDX.out.mono ?_)
    rintro e w3 ⟨rfl, hb3⟩
    have hk3' := HK3.out.below hb3 HK3.out.lt
    have HB3 := Lib.hid (HB1.out.trans (hb3.mono HB1.out.size))
    have c2 : w3.cell? ⟨w.heap.size, 2, none⟩ = some (.slice (some ⟨b, o, none⟩) im ic) := (HK1.out.below hb3 HK1.out.lt).cell 2
    have d0 : w3.cell? ⟨w.heap.size + 2, 0, none⟩ = some (.int .i64 0) := hk3'.cell 0
    have d1 : w3.cell? ⟨w.heap.size + 2, 1, none⟩ = some (.int .i64 0) := hk3'.cell 1
    have d2 : w3.cell? ⟨w.heap.size + 2, 2, none⟩ = some (.slice none 0 0) := hk3'.cell 2
    have g0 := hk3'.frozen 0
    have g1 := hk3'.frozen 1
    have g2 := hk3'.frozen 2
    obtain ⟨q0, q1, q2⟩ := HQ1.out _ HB3.out
    clear hb3 hk3'
    go_wp2_with fail
    (try simp only [Exit.inBlock, Exit.then])
    refine bodyPost_ret (v := .tuple #[.agg #[.int .i64 te, .int .i64 tg, .slice tA tn tc], .bool true]) ?_ rfl ⟨.inl HX.out, ?_⟩
    · rw [results_cell_tmp rfl]
      go_simp
    · exact ((HB3.out.setCell (p := ⟨w.heap.size + 2, 0, none⟩) (by show w.heap.size ≤ w.heap.size + 2; omega) _).setCell (p := ⟨w.heap.size + 2, 1, none⟩) (by show w.heap.size ≤ w.heap.size + 2; omega) _).setCell (p := ⟨w.heap.size + 2, 2, none⟩) (by show w.heap.size ≤ w.heap.size + 2; omega) _
  · rw [hR] at hidx
    have HIDX := Lib.hid hidx
    have HF := Lib.hid hf
    clear h his hb1 hk1 hk2 hk3 hidx hR hf
    go_enter Try.func171, Try.ntmps171
    go_wp2_with fail
    rw [← hW1]
    clear hW1
    (with_reducible refine HIDX.out.mono ?_)
    rintro e w3 ⟨rfl, hb3⟩
    have hk3' := HK3.out.below hb3 HK3.out.lt
    have HB3 := Lib.hid (HB1.out.trans (hb3.mono HB1.out.size))
    have d0 : w3.cell? ⟨w.heap.size + 2, 0, none⟩ = some (.int .i64 0) := hk3'.cell 0
    have d1 : w3.cell? ⟨w.heap.size + 2, 1, none⟩ = some (.int .i64 0) := hk3'.cell 1
    have d2 : w3.cell? ⟨w.heap.size + 2, 2, none⟩ = some (.slice none 0 0) := hk3'.cell 2
    have g0 := hk3'.frozen 0
    have g1 := hk3'.frozen 1
    have g2 := hk3'.frozen 2
    clear hb3 hk3'
    go_wp2_with fail
    (try simp only [Exit.inBlock, Exit.then])
    refine bodyPost_ret (v := .tuple #[.agg #[.int .i64 0, .int .i64 0, .slice none 0 0], .bool false]) ?_ rfl ⟨.inr ⟨HF.out, rfl⟩, ?_⟩
    · rw [results_cell_tmp rfl]
      go_simp
    · exact ((HB3.out.setCell (p := ⟨w.heap.size + 2, 0, none⟩) (by show w.heap.size ≤ w.heap.size + 2; omega) _).setCell (p := ⟨w.heap.size + 2, 1, none⟩) (by show w.heap.size ≤ w.heap.size + 2; omega) _).setCell (p := ⟨w.heap.size + 2, 2, none⟩) (by show w.heap.size ≤ w.heap.size + 2; omega) _
end Go.Proofs.Ytnidcmhfbkdioaa
