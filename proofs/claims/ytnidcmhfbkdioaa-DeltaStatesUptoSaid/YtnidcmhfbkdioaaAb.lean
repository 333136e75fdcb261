/-
  The contracts of game.reader's next, many, list and text, whatever is left. Conditions: what is left can be read.
-/
import Derived.Test.YtnidcmhfbkdioaaAa
namespace Go.Proofs.Ytnidcmhfbkdioaa
open Go.RowKit
set_option maxRecDepth 100000

/-- A reader at block g: what is left, and whether something was bad. -/
def RJ (w : World) (B g : Nat) (s : RS) : Prop :=
  ∃ (A : Option Addr) (n c : Nat), Bk w g 299 #[.slice A n c, .bool s.2] ∧ n = s.1.length ∧ n ≤ c ∧ c ≤ 9223372036854775807 ∧ Rd w B 1 A n (s.1.map (Value.int .i64)) ∧ ∀ z ∈ s.1, (Lit.int .i64 z).wf = true
theorem RJ.below {w w' : World} {B g : Nat} {s : RS} (h : RJ w B g s) (hb : Below w.heap.size w w') (hB : B ≤ w.heap.size) : RJ w' B g s := by
  obtain ⟨A, n, c, h1, h2, h3, h4, h5, h6⟩ := h
  exact ⟨A, n, c, h1.below hb h1.lt, h2, h3, h4, h5.below (hb.mono hB), h6⟩
theorem RJ.wf {w : World} {B g : Nat} {s : RS} (h : RJ w B g s) : ∀ z ∈ s.1, (Lit.int .i64 z).wf = true := by obtain ⟨_, _, _, _, _, _, _, _, h6⟩ := h; exact h6
theorem RJ.bk {w : World} {B g : Nat} {s : RS} (h : RJ w B g s) : ∃ cs, Bk w g 299 cs := by obtain ⟨A, n, c, h1, _⟩ := h; exact ⟨_, h1⟩
theorem RJ.lt {w : World} {B g : Nat} {s : RS} (h : RJ w B g s) : g < w.heap.size := by obtain ⟨cs, h1⟩ := h.bk; exact h1.lt
theorem RJ.eq {w : World} {B g : Nat} {s t : RS} (h : RJ w B g s) (e : s = t) : RJ w B g t := e ▸ h
theorem RJ.lo {w : World} {B g : Nat} {s : RS} (h : RJ w B g s) (hB : B ≤ g) : B ≤ w.heap.size := by have := h.lt; omega
theorem Kx.fqJ {w w' : World} {B B' g : Nat} {s : RS} (h : Fq [g] w w') (hs : RJ w B g s) (hB : B' ≤ g) : Kx B' [299] w w' := by
  obtain ⟨cs, hk⟩ := hs.bk
  refine ⟨h.size, fun b h1 h2 => h.low b h2 (by simp; omega), fun b t cs' h1 h2 => (h.low b h1.lt fun hb => ?_).trans h1⟩
  have e : b = g := by simpa using hb
  subst e
  exact Bk.ne_ h1 hk (fun e => h2 (by rw [e]; simp)) rfl
theorem RJ.kx {w w' : World} {B B' g : Nat} {s : RS} {F : List TypeId} (h : RJ w B g s) (hq : Kx B' F w w') (hB : B ≤ B') (hw : B ≤ w.heap.size) (hF : (299 : TypeId) ∉ F) : RJ w' B g s := by
  obtain ⟨A, n, c, h1, h2, h3, h4, h5, h6⟩ := h
  exact ⟨A, n, c, hq.bk h1 hF, h2, h3, h4, h5.keep fun b hb => hq.low b (by omega) (by omega), h6⟩

theorem Gb.of_fq {w w' : World} {g : Nat} (h : Fq [g] w w') : w.grownBy w' (some g) := ⟨h.os, h.tape, h.output, h.size, fun i hi hne => h.low i hi (by simp only [List.mem_singleton]; intro e; exact hne (by rw [e]))⟩

/-! ### What is left gets no longer -/
theorem rN_le (s : RS) : (rN s).2.1.length ≤ s.1.length := by
  obtain ⟨l, b⟩ := s
  cases l <;> simp [rN]
theorem rM_le (s : RS) : (rM s).2.1.length ≤ s.1.length ∧ (rM s).1 ≤ (rM s).2.1.length := by
  have h := rN_le s
  unfold rM
  split
  · exact ⟨h, Nat.zero_le _⟩
  · exact ⟨h, by dsimp only; omega⟩
theorem rL_le (s : RS) : (rL s).2.1.length ≤ s.1.length ∧ (rL s).1.length ≤ s.1.length := by
  have h := rM_le s
  unfold rL
  simp only [List.length_drop, List.length_take]
  omega
theorem rT_le (s : RS) : (rT s).2.1.length ≤ s.1.length := (rL_le s).1
theorem rep_le {α : Type} (f : RS → α × RS) (h : ∀ s, (f s).2.1.length ≤ s.1.length) (n : Nat) (s : RS) : (rep f n s).2.1.length ≤ s.1.length := by
  induction n with
  | zero => exact Nat.le_refl _
  | succ n ih => exact Nat.le_trans (h _) ih
theorem rep_len {α : Type} (f : RS → α × RS) (n : Nat) (s : RS) : (rep f n s).1.length = n := by
  induction n with
  | zero => rfl
  | succ n ih => simp only [rep, List.length_append, ih, List.length_cons, List.length_nil]

theorem rFd_le (s : RS) : (rFd s).2.1.length ≤ s.1.length := Nat.le_trans (rN_le _) (Nat.le_trans (rN_le _) (rT_le s))
theorem rKd_le (s : RS) : (rKd s).2.1.length ≤ s.1.length := Nat.le_trans (rep_le rFd rFd_le _ _) (Nat.le_trans (rM_le _).1 (rT_le s))
theorem rCm_le (s : RS) : (rCm s).2.1.length ≤ s.1.length := Nat.le_trans (rL_le _).1 (rN_le s)
theorem rE_le (s : RS) : (rE s).2.1.length ≤ s.1.length := Nat.le_trans (rN_le _) (rN_le s)
theorem rIt_le (s : RS) : (rIt s).2.1.length ≤ s.1.length := Nat.le_trans (rep_le rCm rCm_le _ _) (Nat.le_trans (rM_le _).1 (rE_le s))
theorem rWd_le (s : RS) : (rWd s).2.1.length ≤ s.1.length := by
  have h1 : (rKs s).2.1.length ≤ s.1.length := Nat.le_trans (rep_le rKd rKd_le _ _) (rM_le s).1
  have h2 := (rL_le (rKs s).2).1
  have h3 : (rIs (rL (rKs s).2).2).2.1.length ≤ (rL (rKs s).2).2.1.length := Nat.le_trans (rep_le rIt rIt_le _ _) (rM_le _).1
  exact Nat.le_trans h3 (Nat.le_trans h2 h1)

/-! ### What is read are numbers -/
def AllW (l : List Int) : Prop := ∀ z ∈ l, (Lit.int .i64 z).wf = true
theorem rN_w (s : RS) (h : AllW s.1) : (Lit.int .i64 (rN s).1).wf = true ∧ AllW (rN s).2.1 := by
  obtain ⟨l, b⟩ := s
  cases l with
  | nil => exact ⟨rfl, h⟩
  | cons x r => exact ⟨h x (by simp), fun z hz => h z (by simp [show z ∈ r from hz])⟩
theorem rM_w (s : RS) (h : AllW s.1) : AllW (rM s).2.1 := by
  have := (rN_w s h).2
  unfold rM
  split <;> exact this
theorem rL_w (s : RS) (h : AllW s.1) : AllW (rL s).1 ∧ AllW (rL s).2.1 := by
  have := rM_w s h
  exact ⟨fun z hz => this z (List.mem_of_mem_take hz), fun z hz => this z (List.mem_of_mem_drop hz)⟩

set_option maxHeartbeats 800000 in
theorem jnext_any (g B : Nat) (s : RS) (w : World) (hst : RJ w B g s) (hB : B ≤ g) :
    Calls Try.prog 190 #[.pointer (some ⟨g, 0, none⟩)] w fun e w' => e = .returned (.int .i64 (rN s).1) ∧ RJ w' B g (rN s).2 ∧ w.grownBy w' (some g) := by
  obtain ⟨l, b⟩ := s
  have HW := Lib.hid (rN_w _ hst.wf).2
  obtain ⟨A, n, c, hbk, hn, hnc, hc, hr, _⟩ := hst
  cases l with
  | nil =>
    obtain rfl : n = 0 := by simpa using hn
    have c0 : w.cell? ⟨g, 0, none⟩ = some (.slice A 0 c) := hbk.cell 0
    have c1 : w.cell? ⟨g, 1, none⟩ = some (.bool b) := hbk.cell 1
    have f1 := hbk.frozen 1
    have HBK := Lib.hid hbk
    clear hbk hr hn
    go_enter Try.func190, Try.ntmps190
    go_wp2_with fail
    go_ret
    exact ⟨rfl, ⟨A, 0, c, HBK.out.set_ 1 _, rfl, hnc, hc, Rd.nil_ _, HW.out⟩, Gb.set_ (World.grownBy.refl w _) 1 _⟩
  | cons x l =>
    obtain ⟨n, rfl⟩ : ∃ m, n = m + 1 := ⟨l.length, by simpa using hn⟩
    have hn' : n = l.length := by simpa using hn
    obtain ⟨b', o, rfl, hbB, cz, hr'⟩ := cut1 (z := .int .i64 x) (zs := l.map (Value.int .i64)) hr hnc
    have c0 : w.cell? ⟨g, 0, none⟩ = some (.slice (some ⟨b', o, none⟩) (n + 1) c) := hbk.cell 0
    have HN := Lib.hid hn'
    have hne : g ≠ b' := by omega
    have hne' : b' ≠ g := by omega
    have t0 : ((n : Int) + 1 == 0) = false := by simp; omega
    have f0 := hbk.frozen 0
    have HRR := Lib.hid hr'
    have HBK := Lib.hid hbk
    clear hn hn' hr hr' hbk
    go_enter Try.func190, Try.ntmps190
    go_wp2_with fail
    all_goals go_ret
    · obtain rfl : n = 0 := by omega
      refine ⟨rfl, ⟨_, 0, 0, HBK.out.set_ 0 _, HN.out, by omega, by omega, ?_, HW.out⟩, Gb.set_ (World.grownBy.refl w _) 0 _⟩
      have : l = [] := List.eq_nil_of_length_eq_zero HN.out.symm
      subst this
      exact Rd.nil_ _
    · have hc1 : c ≠ 1 := by omega
      have hr2 := HRR.out
      rw [if_neg hc1] at hr2
      refine ⟨rfl, ⟨_, n, c - 1, HBK.out.set_ 0 _, HN.out, by omega, by omega, ?_, HW.out⟩, Gb.set_ (World.grownBy.refl w _) 0 _⟩
      exact hr2.keep fun k hk => Below.heap_setCell _ _ _ _ (by show k ≠ g; omega)

set_option maxHeartbeats 1600000 in
theorem jmany_any (g B : Nat) (s : RS) (w : World) (hst : RJ w B g s) (hB : B ≤ g) :
    Calls Try.prog 192 #[.pointer (some ⟨g, 0, none⟩)] w fun e w' => e = .returned (.int .i64 (rM s).1) ∧ RJ w' B g (rM s).2 ∧ w.grownBy w' (some g) := by
  have H := Lib.hid (jnext_any g B s w hst hB)
  have hM : rM s = if (rN s).1 < 0 ∨ ((rN s).2.1.length : Int) < (rN s).1 then (0, ((rN s).2.1, true)) else ((rN s).1.toNat, (rN s).2) := rfl
  obtain ⟨x, hx⟩ : ∃ x, x = (rN s).1 := ⟨_, rfl⟩
  obtain ⟨s1, hs1⟩ : ∃ s1, s1 = (rN s).2 := ⟨_, rfl⟩
  rw [← hx, ← hs1] at H hM
  have HM := Lib.hid hM
  obtain ⟨l1, b1⟩ := s1
  clear hst hM hx hs1
  go_enter Try.func192, Try.ntmps192
  go_wp2_with fail
  refine H.out.mono ?_
  clear H
  rintro e w1 ⟨rfl, ⟨A, n, c, hbk, hn, hnc, hc, hr, hw⟩, hg⟩
  have HW := Lib.hid hw
  clear hw
  have c0 : w1.cell? ⟨g, 0, none⟩ = some (.slice A n c) := hbk.cell 0
  have c1 : w1.cell? ⟨g, 1, none⟩ = some (.bool b1) := hbk.cell 1
  have f1 := hbk.frozen 1
  have hn' : n = l1.length := hn
  have HH := Lib.hid (And.intro hbk (And.intro hn' (And.intro hr hg)))
  clear hbk hn hr hg hn'
  by_cases hx0 : x < 0
  · have t0 : (x < 0) = True := by simp [hx0]
    go_wp2_with fail
    go_ret
    obtain ⟨h1, h2, h3, h4⟩ := HH.out
    rw [HM.out, if_pos (.inl hx0)]
    exact ⟨rfl, ⟨A, n, c, h1.set_ 1 _, h2, hnc, hc, h3.keep fun k hk => Below.heap_setCell _ _ _ _ (by show k ≠ g; omega), HW.out⟩, Gb.set_ h4 1 _⟩
  · have t0 : (x < 0) = False := by simp [hx0]
    by_cases hx1 : (n : Int) < x
    · have t1 : ((n : Int) < x) = True := by simp [hx1]
      go_wp2_with fail
      go_ret
      obtain ⟨h1, h2, h3, h4⟩ := HH.out
      rw [HM.out, if_pos (.inr (by show (l1.length : Int) < x; rw [← h2]; exact hx1))]
      exact ⟨rfl, ⟨A, n, c, h1.set_ 1 _, h2, hnc, hc, h3.keep fun k hk => Below.heap_setCell _ _ _ _ (by show k ≠ g; omega), HW.out⟩, Gb.set_ h4 1 _⟩
    · have t1 : ((n : Int) < x) = False := by simp [hx1]
      go_wp2_with fail
      go_ret
      obtain ⟨h1, h2, h3, h4⟩ := HH.out
      rw [HM.out, if_neg (by omega)]
      refine ⟨?_, ⟨A, n, c, h1, h2, hnc, hc, h3, HW.out⟩, h4⟩
      have h9 : ((x.toNat : Nat) : Int) = x := Int.toNat_of_nonneg (by omega)
      simp only [h9]
      rfl

set_option maxHeartbeats 800000 in
theorem jlist_any (g B : Nat) (s : RS) (w : World) (hst : RJ w B g s) (hB : B ≤ g) (hx : s.1.length ≤ 1000000000) :
    Calls Try.prog 193 #[.pointer (some ⟨g, 0, none⟩)] w fun e w' => ∃ (A : Option Addr) (c : Nat), e = .returned (.slice A (rL s).1.length c) ∧ w'.ownsRow w.heap.size 3 1 (.slice A (rL s).1.length c) (rL s).1.length ((rL s).1.map (Value.int .i64)) ∧ RJ w' B g (rL s).2 ∧ w.grownBy w' (some g) := by
  have hgl := hst.lt
  have H := Lib.hid (jmany_any g B s w hst hB)
  have hle := rM_le s
  have hL : rL s = ((rM s).2.1.take (rM s).1, ((rM s).2.1.drop (rM s).1, (rM s).2.2)) := rfl
  obtain ⟨b, hb⟩ : ∃ b, b = (rM s).2.2 := ⟨_, rfl⟩
  obtain ⟨xs, hxs⟩ : ∃ xs, xs = (rM s).2.1.take (rM s).1 := ⟨_, rfl⟩
  obtain ⟨l, hl⟩ : ∃ l, l = (rM s).2.1.drop (rM s).1 := ⟨_, rfl⟩
  have hs2 : (rM s).2 = (xs ++ l, b) := by rw [hxs, hl, hb, List.take_append_drop]
  have hk : (rM s).1 = xs.length := by rw [hxs, List.length_take]; omega
  have hxl : xs.length ≤ 1000000000 := by omega
  rw [← hb, ← hxs, ← hl] at hL
  rw [hs2, hk] at H
  rw [hL]
  dsimp only
  clear hst hle hL hb hxs hl hs2 hk hx
  go_enter Try.func193, Try.ntmps193
  go_wp2_with fail
  refine H.out.mono ?_
  clear H
  rintro e w1 ⟨rfl, ⟨A, n, c, hbk, hn, hnc, hc, hr, hw⟩, hg⟩
  have HW := Lib.hid hw
  clear hw
  obtain ⟨m, hm⟩ : ∃ m, m = xs.length := ⟨_, rfl⟩
  have hn2 : n = (xs ++ l).length := hn
  have hmn : m ≤ n := by rw [hn2, hm]; simp
  have hw1 : w.heap.size ≤ w1.heap.size := hg.size
  have hrx : Rd w1 B 1 A m (xs.map (Value.int .i64)) := by
    refine ⟨by simp [hm], fun h0 => ?_⟩
    obtain ⟨b, o, e, h1, h2⟩ := hr.2 (by omega)
    refine ⟨b, o, e, h1, fun j u hu => h2 j u ?_⟩
    have hj : j < (xs.map (Value.int .i64)).length := (List.getElem?_eq_some_iff.1 hu).1
    rw [List.map_append, List.getElem?_append_left hj]
    exact hu
  have HC := Lib.hid (cloneInts_any A m c B (xs.map (Value.int .i64)) w1 hrx (fun u hu => by
    obtain ⟨z, _, rfl⟩ := List.mem_map.1 hu
    rfl) (by omega) (by omega))
  have c0 : w1.cell? ⟨g, 0, none⟩ = some (.slice A n c) := hbk.cell 0
  have HH := Lib.hid (And.intro hbk (And.intro hn2 (And.intro hr hg)))
  have HM := Lib.hid hm
  have hm1 : m ≤ 1000000000 := by omega
  have hmc : m ≤ c := by omega
  rw [← hm]
  clear hbk hn hn2 hr hg hrx hm hxl
  go_wp2_with fail
  refine HC.out.mono ?_
  rintro e w2 ⟨A2, c2, rfl, hown2, hb2⟩
  have hbk2 := HH.out.1.below hb2 HH.out.1.lt
  have d0 : w2.cell? ⟨g, 0, none⟩ = some (.slice A n c) := hbk2.cell 0
  have d1 := hbk2.frozen 0
  have HO := Lib.hid hown2
  have HB2 := Lib.hid hb2
  have HK2 := Lib.hid hbk2
  clear hown2 hb2 hbk2 c0
  have hfin : ∀ (A3 : Option Addr) (c3 : Nat), n - m ≤ c3 → c3 ≤ 9223372036854775807 → Rd w1 B 1 A3 (n - m) (l.map (Value.int .i64)) →
      (w2.setCell ⟨g, 0, none⟩ (.slice A3 (n - m) c3)).ownsRow w.heap.size 3 1 (.slice A2 m c2) m (xs.map (Value.int .i64)) ∧ RJ (w2.setCell ⟨g, 0, none⟩ (.slice A3 (n - m) c3)) B g (l, b) ∧ w.grownBy (w2.setCell ⟨g, 0, none⟩ (.slice A3 (n - m) c3)) (some g) := by
    intro A3 c3 h1 h2 h3
    refine ⟨own_mono (own_farU HO.out HK2.out (by decide) 0 _) hw1, ⟨A3, n - m, c3, HK2.out.set_ 0 _, ?_, h1, h2, ?_, fun z hz => HW.out z (List.mem_append_right _ hz)⟩, Gb.set_ ?_ 0 _⟩
    · have := HH.out.2.1; have := HM.out; rw [List.length_append] at *; show n - m = l.length; omega
    · exact (h3.below (HB2.out.mono (by omega))).keep fun k hk => Below.heap_setCell _ _ _ _ (by show k ≠ g; omega)
    · exact Gb.more HH.out.2.2.2 ⟨HB2.out.os, HB2.out.tape, HB2.out.output, HB2.out.size, fun k hk _ => HB2.out.block k hk⟩ (.inl rfl)
  have hnil : m = n → l = [] := fun e => List.eq_nil_of_length_eq_zero (by have := HH.out.2.1; have := HM.out; rw [List.length_append] at *; omega)
  have HF := Lib.hid hfin
  have HNI := Lib.hid hnil
  clear hfin hnil
  rcases hA : A with _ | ⟨b, o, sp⟩
  · subst hA
    go_wp2_with fail
    go_ret
    have h0 : m = n := by
      rcases Nat.eq_zero_or_pos n with h | h
      · omega
      · obtain ⟨_, _, e, _⟩ := HH.out.2.2.1.2 h; cases e
    have hl := HNI.out h0
    subst hl
    have e0 : n - m = 0 := by omega
    have := HF.out none (c - m) (by omega) (by omega) (by rw [e0]; exact Rd.nil_ _)
    refine ⟨A2, c2, by rw [← HM.out]; rfl, by rw [← HM.out]; exact this.1, this.2⟩
  · subst hA
    have hrd2 : c ≠ m → Rd w1 B 1 (some ((⟨b, o, sp⟩ : Addr).add m)) (n - m) (l.map (Value.int .i64)) := fun hcm => by
      rcases Nat.eq_zero_or_pos (n - m) with h | h
      · have hl := HNI.out (by omega)
        subst hl
        rw [h]; exact Rd.nil_ _
      · obtain ⟨b', o', e, h1, h2⟩ := HH.out.2.2.1.2 (by omega)
        injection e with e
        injection e with e1 e2 e3
        subst e1
        subst e2
        subst e3
        refine ⟨by have := HH.out.2.1; have := HM.out; rw [List.length_append] at *; simp; omega, fun _ => ⟨b, o + m, by simp [Addr.add], h1, fun j u hu => ?_⟩⟩
        rw [Nat.add_assoc]
        refine h2 (m + j) u ?_
        rw [List.map_append, List.getElem?_append_right (by simp [HM.out]), List.length_map, ← HM.out, Nat.add_sub_cancel_left]
        exact hu
    have HR2 := Lib.hid hrd2
    clear hrd2
    go_wp2_with fail
    · go_ret
      have h0 : m = n := by omega
      have hl := HNI.out h0
      subst hl
      have e0 : n - m = 0 := by omega
      have := HF.out (some ⟨b, o, sp⟩) 0 (by omega) (by omega) (by rw [e0]; exact Rd.nil_ _)
      refine ⟨A2, c2, by rw [← HM.out]; rfl, by rw [← HM.out]; exact this.1, this.2⟩
    · go_ret
      have := HF.out (some ((⟨b, o, sp⟩ : Addr).add m)) (c - m) (by omega) (by omega) (HR2.out (by omega))
      refine ⟨A2, c2, by rw [← HM.out]; rfl, by rw [← HM.out]; exact this.1, this.2⟩

def bV (x : Int) : Value := .int .u8 ((toB x).toNat : Int)
theorem bV_wrap (x : Int) : Value.int .u8 (IntKind.u8.wrap x) = bV x := by
  unfold bV toB
  rw [IntKind.wrap_u8]
  congr 1
  simp only [UInt8.toNat_ofNat']
  omega
set_option maxHeartbeats 1600000 in
theorem jtext_any (g B : Nat) (s : RS) (w : World) (hst : RJ w B g s) (hB : B ≤ g) (hx : s.1.length ≤ 1000000000) :
    Calls Try.prog 222 #[.pointer (some ⟨g, 0, none⟩)] w fun e w' => e = .returned (.string (rT s).1) ∧ RJ w' B g (rT s).2 ∧ w.grownBy w' (some g) := by
  obtain ⟨i5, hi5, hz50, hz51, hz52⟩ := info_parts T.info5
  have hgl := hst.lt
  have H := Lib.hid (jlist_any g B s w hst hB hx)
  have hle := (rL_le s).2
  have hT : rT s = (toBs (rL s).1, ((rL s).2.1, (rL s).2.2 || (rL s).1.any badB)) := rfl
  obtain ⟨xs, hxs⟩ : ∃ xs, xs = (rL s).1 := ⟨_, rfl⟩
  obtain ⟨l, hl⟩ : ∃ l, l = (rL s).2.1 := ⟨_, rfl⟩
  obtain ⟨b, hb⟩ : ∃ b, b = (rL s).2.2 := ⟨_, rfl⟩
  have hs2 : (rL s).2 = (l, b) := by rw [hl, hb]
  rw [hs2, ← hxs] at H
  rw [← hb, ← hxs, ← hl] at hT
  rw [← hxs] at hle
  rw [hT]
  dsimp only
  clear hst hT hxs hl hb hs2
  obtain ⟨n, hn⟩ : ∃ n, n = xs.length := ⟨_, rfl⟩
  have hn1 : n ≤ 1000000000 := by omega
  rw [← hn] at H
  have HN := Lib.hid hn
  clear hn hle hx
  go_enter Try.func222, Try.ntmps222
  go_wp2_with fail
  refine H.out.mono ?_
  clear H
  rintro e w1 ⟨A, c, rfl, hown1, hri1, hg1⟩
  have HO1 := Lib.hid hown1
  have HR1 : Hid (RJ w1 B g (l, b || (xs.take 0).any badB)) := Lib.hid (hri1.eq (by simp))
  have HG1 := Lib.hid hg1
  have hw1 : w.heap.size ≤ w1.heap.size := hg1.size
  clear hown1 hri1 hg1
  go_wp2_with fail
  go_loopw [3, 9] (fun bv kv wr => ∃ (k c' : Nat) (A' : Option Addr), k ≤ n ∧ kv = .int .i64 k ∧ bv = .slice A' k c' ∧ Hid (wr.ownsRow w1.heap.size 5 1 (.slice A' k c') k ((xs.take k).map bV)) ∧ Hid (RJ wr B g (l, b || (xs.take k).any badB)) ∧ Hid (Fq [g] w1 wr)) (fun _ kv _ => n - (intOf kv).toNat)
  case atStart => exact ⟨0, 0, none, Nat.zero_le _, rfl, rfl, Lib.hid (World.ownsRow_nil _ _ _ _), HR1, Lib.hid (Fq.refl)⟩
  case round =>
    obtain ⟨k, c', A', hk, rfl, rfl, HO, HR, HQ⟩ := hrel
    obtain ⟨wo, rfl⟩ : ∃ z, z = wr := ⟨_, rfl⟩
    by_cases hlt : k < n
    · obtain ⟨x, hx⟩ : ∃ x, xs[k]? = some x := ⟨_, List.getElem?_eq_getElem (by have := HN.out; omega)⟩
      have hkf := Kx.fqJ (B' := 0) HQ.out HR1.out (Nat.zero_le _)
      obtain ⟨b', o, rfl, hbb, hcx⟩ := (Rd.of_own (hkf.own HO1.out (by decide))).at1 hlt (u := .int .i64 x) (by rw [List.getElem?_map, hx]; rfl)
      have HX := Lib.hid hx
      have hgo : g < wo.heap.size := HR.out.lt
      clear hx hkf
      obtain ⟨AR, nR, cR, hkR, hnR, hcR1, hcR2, hrR, hwR⟩ := HR.out
      have c0 : wo.cell? ⟨g, 1, none⟩ = some (.bool (b || (xs.take k).any badB)) := hkR.cell 1
      have f0 := hkR.frozen 1
      have hany : (xs.take (k + 1)).any badB = ((xs.take k).any badB || badB x) := by rw [List.take_add_one, HX.out, List.any_append]; simp
      have HBAD : Hid (badB x = true → Hid ((wo.setCell ⟨g, 1, none⟩ (.bool true)).ownsRow w1.heap.size 5 1 (.slice A' k c') k ((xs.take k).map bV)) ∧ Hid (RJ (wo.setCell ⟨g, 1, none⟩ (.bool true)) B g (l, b || (xs.take (k + 1)).any badB)) ∧ Hid (Fq [g] w1 (wo.setCell ⟨g, 1, none⟩ (.bool true)))) := Lib.hid fun hb => by
        refine ⟨Lib.hid (own_farU HO.out hkR (by decide) 1 _), Lib.hid ⟨AR, nR, cR, ?_, hnR, hcR1, hcR2, hrR.keep fun k hk => Below.heap_setCell _ _ _ _ (by show k ≠ g; omega), hwR⟩, Lib.hid (HQ.out.set (.inl (by simp)) 1 _)⟩
        have := hkR.set_ 1 (.bool true)
        rw [hany, hb]
        simpa using this
      have HOK : Hid (badB x = false → Hid (RJ wo B g (l, b || (xs.take (k + 1)).any badB))) := Lib.hid fun hb => Lib.hid (HR.out.eq (by rw [hany, hb]; simp))
      clear hkR hrR hany hnR hwR HR
      by_cases hx0 : x < 0
      · have t0 : (x < 0) = True := by simp [hx0]
        obtain ⟨HOz, HRz, HQz⟩ := HBAD.out (by simp [badB, hx0])
        go_upto_region 7 with fail
        obtain ⟨wz, hwz⟩ : ∃ z, z = wo.setCell ⟨g, 1, none⟩ (.bool true) := ⟨_, rfl⟩
        rw [← hwz] at HOz HRz HQz
        try rw [← hwz]
        clear hwz c0 f0 HBAD HOK
        have hbs := HQz.out.size
        go_wp2_with
          (at_builtin
           go_must (refine wpList_append_one _ rfl (.tmp 22) (.tmp 25) _ rfl w1.heap.size 5 i5 (.int .u8 0) 1 1 Try.underlying81 hi5 hz50 hz51 hz52 rfl (by decide) (.slice A' k c') k _ rfl (HOz.out.alloc _) wz.heap.size 1 5 #[bV x] rfl (by first | (rw [← bV_wrap]; exact Bk.new _ _ _) | (rw [HBX.out]; exact Bk.new _ _ _)) rfl ?c1 (k + 1) rfl ?c2 ?c3 ?c4 ?_)
           case c1 => simp [Value.oneCell', bV]
           case c2 => unfold maxLen; omega
           case c3 => omega
           case c4 => simp; omega
           intro g2 c2 w2 hown2 hg2 hat2)
        have HO2 : Hid (w2.ownsRow w1.heap.size 5 1 (.slice (some ⟨g2, 0, none⟩) (k + 1) c2) (k + 1) ((xs.take (k + 1)).map bV)) := Lib.hid (by
          rw [List.take_add_one, HX.out, List.map_append]
          exact hown2)
        have HQ2 : Hid (Fq [g] w1 w2) := Lib.hid ((HQz.out.alloc _).grown hg2 fun q hq => .inr (HOz.out.lt q hq).1)
        have HR2 : Hid (RJ w2 B g (l, b || (xs.take (k + 1)).any badB)) := Lib.hid (HRz.out.kx (B' := B) (F := [5]) (((Kx.refl (B := B)).alloc _).grown (World.ownsRow.alloc HOz.out _) hg2 (by have := HR1.out.lt; omega) (by simp)) (Nat.le_refl _) (HRz.out.lo hB) (by decide))
        clear hown2 hg2 hat2 HOz HRz HQz
        go_wp2_with fail
        go_roundw
        case rel => exact ⟨k + 1, c2, _, by omega, by go_num, rfl, HO2, HR2, HQ2⟩
        case measure => simp [intOf]; omega
      · have t0 : (x < 0) = False := by simp [hx0]
        by_cases hx1 : 255 < x
        · have t1 : (255 < x) = True := by simp [hx1]
          obtain ⟨HOz, HRz, HQz⟩ := HBAD.out (by simp [badB, hx1])
          go_upto_region 7 with fail
          obtain ⟨wz, hwz⟩ : ∃ z, z = wo.setCell ⟨g, 1, none⟩ (.bool true) := ⟨_, rfl⟩
          rw [← hwz] at HOz HRz HQz
          try rw [← hwz]
          clear hwz c0 f0 HBAD HOK
          have hbs := HQz.out.size
          go_wp2_with
            (at_builtin
             go_must (refine wpList_append_one _ rfl (.tmp 22) (.tmp 25) _ rfl w1.heap.size 5 i5 (.int .u8 0) 1 1 Try.underlying81 hi5 hz50 hz51 hz52 rfl (by decide) (.slice A' k c') k _ rfl (HOz.out.alloc _) wz.heap.size 1 5 #[bV x] rfl (by first | (rw [← bV_wrap]; exact Bk.new _ _ _) | (rw [HBX.out]; exact Bk.new _ _ _)) rfl ?c1 (k + 1) rfl ?c2 ?c3 ?c4 ?_)
             case c1 => simp [Value.oneCell', bV]
             case c2 => unfold maxLen; omega
             case c3 => omega
             case c4 => simp; omega
             intro g2 c2 w2 hown2 hg2 hat2)
          have HO2 : Hid (w2.ownsRow w1.heap.size 5 1 (.slice (some ⟨g2, 0, none⟩) (k + 1) c2) (k + 1) ((xs.take (k + 1)).map bV)) := Lib.hid (by
            rw [List.take_add_one, HX.out, List.map_append]
            exact hown2)
          have HQ2 : Hid (Fq [g] w1 w2) := Lib.hid ((HQz.out.alloc _).grown hg2 fun q hq => .inr (HOz.out.lt q hq).1)
          have HR2 : Hid (RJ w2 B g (l, b || (xs.take (k + 1)).any badB)) := Lib.hid (HRz.out.kx (B' := B) (F := [5]) (((Kx.refl (B := B)).alloc _).grown (World.ownsRow.alloc HOz.out _) hg2 (by have := HR1.out.lt; omega) (by simp)) (Nat.le_refl _) (HRz.out.lo hB) (by decide))
          clear hown2 hg2 hat2 HOz HRz HQz
          go_wp2_with fail
          go_roundw
          case rel => exact ⟨k + 1, c2, _, by omega, by go_num, rfl, HO2, HR2, HQ2⟩
          case measure => simp [intOf]; omega
        · have t1 : (255 < x) = False := by simp [hx1]
          have HOz := HO
          have HQz := HQ
          have HRz := HOK.out (by simp [badB, hx0, hx1])
          have HBX : Hid (bV x = .int .u8 x) := Lib.hid (by rw [← bV_wrap, IntKind.wrap_u8, Int.emod_eq_of_lt (by omega) (by omega)])
          clear HO HQ
          go_upto_region 7 with fail
          obtain ⟨wz, hwz⟩ : ∃ z, z = wo := ⟨_, rfl⟩
          rw [← hwz] at HOz HRz HQz
          try rw [← hwz]
          clear hwz c0 f0 HBAD HOK
          have hbs := HQz.out.size
          go_wp2_with
            (at_builtin
             go_must (refine wpList_append_one _ rfl (.tmp 22) (.tmp 25) _ rfl w1.heap.size 5 i5 (.int .u8 0) 1 1 Try.underlying81 hi5 hz50 hz51 hz52 rfl (by decide) (.slice A' k c') k _ rfl (HOz.out.alloc _) wz.heap.size 1 5 #[bV x] rfl (by first | (rw [← bV_wrap]; exact Bk.new _ _ _) | (rw [HBX.out]; exact Bk.new _ _ _)) rfl ?c1 (k + 1) rfl ?c2 ?c3 ?c4 ?_)
             case c1 => simp [Value.oneCell', bV]
             case c2 => unfold maxLen; omega
             case c3 => omega
             case c4 => simp; omega
             intro g2 c2 w2 hown2 hg2 hat2)
          have HO2 : Hid (w2.ownsRow w1.heap.size 5 1 (.slice (some ⟨g2, 0, none⟩) (k + 1) c2) (k + 1) ((xs.take (k + 1)).map bV)) := Lib.hid (by
            rw [List.take_add_one, HX.out, List.map_append]
            exact hown2)
          have HQ2 : Hid (Fq [g] w1 w2) := Lib.hid ((HQz.out.alloc _).grown hg2 fun q hq => .inr (HOz.out.lt q hq).1)
          have HR2 : Hid (RJ w2 B g (l, b || (xs.take (k + 1)).any badB)) := Lib.hid (HRz.out.kx (B' := B) (F := [5]) (((Kx.refl (B := B)).alloc _).grown (World.ownsRow.alloc HOz.out _) hg2 (by have := HR1.out.lt; omega) (by simp)) (Nat.le_refl _) (HRz.out.lo hB) (by decide))
          clear hown2 hg2 hat2 HOz HRz HQz
          go_wp2_with fail
          go_roundw
          case rel => exact ⟨k + 1, c2, _, by omega, by go_num, rfl, HO2, HR2, HQ2⟩
          case measure => simp [intOf]; omega
    · obtain rfl : k = n := by omega
      have hft : xs.take k = xs := List.take_of_length_le (by have := HN.out; omega)
      rw [hft] at HO HR
      have hkl : k = (toBs xs).data.toList.length := by simp [toBs, HN.out]
      have hcv : (convert 81 9 (.slice A' k c')).run Try.prog wo = .ok (.string (toBs xs)) wo := by
        cases A' with
        | none =>
          have h0 : k = 0 := by
            rcases Nat.eq_zero_or_pos k with h | h
            · exact h
            · obtain ⟨_, _, e, _⟩ := (Rd.of_own HO.out).2 h; cases e
          rw [run_convert_bytes_nil (w := wo) 81 5 Try.underlying81 Try.underlying5 k c' 9 Try.underlying9]
          have : toBs xs = ByteArray.empty := ByteArray.ext (Array.toList_inj.mp (List.eq_nil_of_length_eq_zero (by omega)))
          rw [this]
        | some a =>
          have hb := run_convert_bytes_back (P := Try.prog) wo 81 9 5 a c' (toBs xs).data.toList Try.underlying81 Try.underlying5 Try.underlying9 (fun j hj => by
            have hjx : j < xs.length := by have := HN.out; omega
            obtain ⟨b, o, e, _, hcx⟩ := (Rd.of_own HO.out).at1 (k := j) (by omega) (u := bV xs[j]) (by
              rw [List.getElem?_map, List.getElem?_eq_getElem hjx]; rfl)
            injection e with e
            rw [e, Addr.add_lit]
            rw [hcx]
            simp [toBs, bV])
          rw [← hkl] at hb
          exact hb
      clear hkl hft
      go_wp2_with fail
      go_ret
      exact ⟨rfl, HR.out, Gb.more HG1.out (Gb.of_fq HQ.out) (.inl rfl)⟩
end Go.Proofs.Ytnidcmhfbkdioaa
