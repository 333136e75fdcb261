/-
  The contract of kind.Fit. Conditions: what is read can be read.
-/
import Derived.Test.YtnidcmhfbkdioaaWc
namespace Go.Proofs.Ytnidcmhfbkdioaa
open Go.RowKit
set_option maxRecDepth 100000

theorem oneF_len {nm : ByteArray} {fds : List Fd} (h : oneF nm fds = 0) : fds.length ≤ 8 := by
  unfold oneF at h
  split at h
  · cases h
  · split at h
    · cases h
    · omega
def zipF (fds : List Fd) (vals : List Int) : List Int := List.zipWith nearF fds vals
def fitF (nm : ByteArray) (fds : List Fd) (vals : List Int) : List Int × Int :=
  if oneF nm fds ≠ 0 then ([], oneF nm fds) else if vals.length ≠ fds.length then ([], 1) else (zipF fds vals, 0)
def fitC (L : List Int) (k : Nat) : Array Value := ((L.take k ++ List.replicate (L.length - k) 0).map (Value.int .i64)).toArray
theorem fitC_zero (L : List Int) : fitC L 0 = Array.replicate L.length (Value.int .i64 0) := by
  unfold fitC
  simp
theorem fitC_step {L : List Int} {k : Nat} {x : Int} (h : L[k]? = some x) : (fitC L k).setIfInBounds k (.int .i64 x) = fitC L (k + 1) := by
  have hk : k < L.length := (List.getElem?_eq_some_iff.1 h).1
  unfold fitC
  rw [show L.length - k = (L.length - (k + 1)) + 1 by omega, List.replicate_succ, List.take_add_one, h]
  apply Array.ext'
  simp [Nat.min_eq_left (Nat.le_of_lt hk)]
theorem fitC_at {L : List Int} {k : Nat} (h : k < L.length) : (fitC L k)[k]? = some (.int .i64 0) := by
  unfold fitC
  obtain ⟨m, hm⟩ : ∃ m, L.length - k = m + 1 := ⟨L.length - k - 1, by omega⟩
  rw [hm]
  simp [Nat.min_eq_left (Nat.le_of_lt h)]
theorem fitC_full (L : List Int) : (fitC L L.length).toList = L.map (Value.int .i64) := by
  unfold fitC
  simp
theorem zipF_at {fds : List Fd} {vals : List Int} {k : Nat} {f : Fd} {v : Int} (h : fds[k]? = some f) (h2 : vals[k]? = some v) : (zipF fds vals)[k]? = some (nearF f v) := by
  unfold zipF
  rw [List.getElem?_zipWith, h, h2]
theorem own_full {w : World} {base n g : Nat} {e : TypeId} {xs : List Value} (h : w.ownsRow base e 1 (.slice (some ⟨g, 0, none⟩) n n) n xs) : base ≤ g ∧ Bk w g e xs.toArray := by
  rcases h.2 with ⟨hv, _⟩ | ⟨g', cap, cur, hv, hb, hh, _, _, hs, ht⟩
  · cases hv
  · simp only [Value.slice.injEq, Option.some.injEq, Addr.mk.injEq, and_true, true_and] at hv
    obtain ⟨rfl, rfl⟩ := hv
    refine ⟨hb, ?_⟩
    have : cur = xs.toArray := by
      rw [← ht, List.take_of_length_le (by simp [hs])]
    rw [← this]; exact hh
theorem own_of_bk {w : World} {base g n : Nat} {e : TypeId} {cs : Array Value} {xs : List Value} (hg : base ≤ g) (hb : Bk w g e cs) (hc : cs.toList = xs) (hn : n = xs.length) (hm : n ≤ 1000000) : w.ownsRow base e 1 (.slice (some ⟨g, 0, none⟩) n n) n xs := by
  have hs : cs.size = n := by rw [hn, ← hc]; simp
  exact ⟨by simp [hn], .inr ⟨g, n, cs, rfl, hg, hb, Nat.le_refl _, by unfold maxLen; omega, by simp [hs], by rw [hc, List.take_of_length_le (by simp [hn])]⟩⟩
theorem made_rep (N : Nat) : ((madeCells (Value.int .i64 0).cells (N * 1)).toList).toArray = Array.replicate N (Value.int .i64 0) := by
  rw [Nat.mul_one]
  apply Array.ext'
  simp only [madeCells]
  apply List.ext_getElem?
  intro j
  by_cases hj : j < N
  · simp [hj, Value.cells, Nat.mod_one]
  · simp [hj]
def FitP (w : World) (r : List Int × Int) (e : Ending) (w' : World) : Prop :=
  ∃ A c, e = .returned (.tuple #[.slice A r.1.length c, .int .i64 r.2]) ∧ w'.ownsRow w.heap.size 3 1 (.slice A r.1.length c) r.1.length (r.1.map (Value.int .i64)) ∧ Below w.heap.size w w'

set_option maxHeartbeats 3200000 in
theorem fit_any (nm : ByteArray) (fA : Option Addr) (fn fc : Nat) (fds : List Fd) (A : Option Addr) (n c B : Nat) (vals : List Int) (w : World) (hr : Rd w B 3 fA fn (fdCs fds)) (hfn : fn = fds.length) (hfc : fn ≤ fc) (hfc2 : fc ≤ 9223372036854775807)
    (hv : Rd w B 1 A n (vals.map (Value.int .i64))) (hn : n = vals.length) (hnc : n ≤ c) (_hc2 : c ≤ 9223372036854775807) (hB : B ≤ w.heap.size) :
    Calls Try.prog 156 #[.agg #[.string nm, .slice fA fn fc], .slice A n c] w (FitP w (fitF nm fds vals)) := by
  have hb1 := (Below.refl w.heap.size w).alloc (Nat.le_refl _) (.cells #[.string nm, .slice fA fn fc] 63)
  have hk1 := Bk.new w 63 #[.string nm, .slice fA fn fc]
  have HO := Lib.hid (one_any nm fA fn fc B fds _ (hr.below (hb1.mono hB)) hfn hfc hfc2 (by simp; omega))
  have HR := Lib.hid hr
  have HV := Lib.hid hv
  have HB1 := Lib.hid hb1
  have HK1 := Lib.hid hk1
  have HFN := Lib.hid hfn
  have HN := Lib.hid hn
  clear hb1 hk1 hr hv hfn hn
  obtain ⟨r, hr⟩ : ∃ r, r = oneF nm fds := ⟨_, rfl⟩
  rw [← hr] at HO
  have HRR := Lib.hid hr
  clear hr
  obtain ⟨R, hR⟩ : ∃ R, R = fitF nm fds vals := ⟨_, rfl⟩
  rw [← hR]
  have HH := Lib.hid hR
  clear hR
  go_enter Try.func156, Try.ntmps156
  go_wp2_with fail
  refine HO.out.mono ?_
  rintro e w2 ⟨rfl, hb2⟩
  have hk2 := HK1.out.below hb2 (by simp)
  have x1 : w2.cell? ⟨w.heap.size, 1, none⟩ = some (.slice fA fn fc) := hk2.cell 1
  have HB2 := Lib.hid (HB1.out.trans (hb2.mono (by simp)))
  have HK2 := Lib.hid hk2
  clear hk2 hb2
  by_cases h0 : r = 0
  · have hlen := oneF_len (nm := nm) (fds := fds) (by rw [← HRR.out]; exact h0)
    rw [← HFN.out] at hlen
    subst h0
    by_cases hnn : n = fn
    · subst hnn
      have hRR : R = (zipF fds vals, 0) := by
        rw [HH.out]; unfold fitF
        rw [if_neg (by rw [← HRR.out]; simp), if_neg (by rw [← HN.out, ← HFN.out]; simp)]
      obtain ⟨L, hL⟩ : ∃ L, L = zipF fds vals := ⟨_, rfl⟩
      have hLl : L.length = n := by rw [hL]; unfold zipF; rw [List.length_zipWith, ← HN.out, ← HFN.out]; simp
      rw [← hL] at hRR
      subst hRR
      have HL := Lib.hid hL
      have HLL := Lib.hid hLl
      clear hL hLl HH
      obtain ⟨i0, hi0, hz0, hz1, hz2⟩ := info_parts T.info3
      go_wp2_with
        (at_make
         go_must (refine wpList_make_full _ rfl _ _ 30 rfl w.heap.size 3 i0 (.int .i64 0) 1 Try.underlying30 hi0 hz0 hz1 .i64 .i64 _ _ n rfl rfl rfl rfl (by rw [hz2]; omega) (by unfold maxLen; omega) HB2.out.size ?_)
         go_loud (
           intro w3 hown3 hg3
           obtain ⟨hgc, hbk3⟩ := own_full hown3
           rw [made_rep, ← HLL.out, ← fitC_zero] at hbk3
           have hk3 := HK2.out.grown hg3 (by simp)
           have x3 : w3.cell? ⟨w.heap.size, 1, none⟩ = some (.slice fA n fc) := hk3.cell 1
           have hb3 := HB2.out.grown hg3 (HB2.out.size) (fun q hq => by cases hq)
           clear hown3))
      obtain ⟨gO, hgO⟩ : ∃ g, g = w2.heap.size := ⟨_, rfl⟩
      rw [← hgO] at hbk3 hgc ⊢
      have HI0 : Hid (Bk w3 gO 3 (fitC L 0) ∧ Below w.heap.size w w3) := Lib.hid ⟨hbk3, hb3⟩
      have HGO := Lib.hid hgO
      clear hbk3 hb3 hk3 hg3 hgO x1
      have hn8 : (n : Int) ≤ 8 := by omega
      go_loopw [27] (fun iv wr => ∃ k : Nat, k ≤ n ∧ iv = .int .i64 k ∧ Hid (Bk wr gO 3 (fitC L k) ∧ Below w.heap.size w wr)) (fun iv _ => n - (intOf iv).toNat)
      case atStart => exact ⟨0, Nat.zero_le _, rfl, HI0⟩
      case round =>
        clear HI0
        obtain ⟨k, hk, rfl, HI⟩ := hrel
        by_cases hlt : k < n
        · have hkz : (k : Int) < n := by omega
          obtain ⟨f, hf⟩ : ∃ f, fds[k]? = some f := ⟨_, List.getElem?_eq_getElem (by have := HFN.out; omega)⟩
          obtain ⟨v, hv⟩ : ∃ v, vals[k]? = some v := ⟨_, List.getElem?_eq_getElem (by have := HN.out; omega)⟩
          have hzf := zipF_at hf hv
          rw [← HL.out] at hzf
          obtain ⟨b, o, rfl, hbb, q0, q1, q2⟩ := (HR.out.below (HI.out.2.mono hB)).fd hlt hf
          obtain ⟨b', o', rfl, hbb', c0⟩ := (HV.out.below (HI.out.2.mono hB)).at1 hlt (u := .int .i64 v) (by rw [List.getElem?_map, hv]; rfl)
          obtain ⟨x, hx⟩ : ∃ x, x = nearF f v := ⟨_, rfl⟩
          rw [← hx] at hzf
          have HNR := Lib.hid (near_any f v)
          rw [← hx] at HNR
          generalize f.nm = a1 at *
          generalize f.bits = a2 at *
          generalize f.low = a3 at *
          have HZ := Lib.hid hzf
          clear hf hv hx hzf
          go_wp2_with fail
          have hb1 := (Below.refl wr.heap.size wr).alloc (Nat.le_refl _) (.cells #[.string a1, .int .i64 a2, .int .i64 a3] 66)
          have hh1 := Bk.new wr 66 #[.string a1, .int .i64 a2, .int .i64 a3]
          have hO1 := HI.out.1.alloc (.cells #[.string a1, .int .i64 a2, .int .i64 a3] 66)
          have hw1 := HI.out.2.trans (hb1.mono HI.out.2.size)
          have hbw : b' < wr.heap.size := Nat.lt_of_lt_of_le hbb' (Nat.le_trans hB HI.out.2.size)
          have c1 := (hb1.cell (p := ⟨b', o' + k, none⟩) hbw).trans c0
          have hgh : gO < wr.heap.size := HI.out.1.lt
          have hgb : b' ≠ gO := by have := hgc; omega
          clear hb1 c0 q0 q1 q2
          generalize wr.alloc (.cells #[.string a1, .int .i64 a2, .int .i64 a3] 66) = W1 at *
          generalize wr.heap.size = hh at *
          have hgh2 : hh ≠ gO := by omega
          have s1 : W1.drew.cell? ⟨hh, 0, none⟩ = some (.string a1) ∧ W1.drew.cell? ⟨hh, 1, none⟩ = some (.int .i64 a2) ∧ W1.drew.cell? ⟨hh, 2, none⟩ = some (.int .i64 a3) ∧ W1.drew.cell? ⟨b', o' + k, none⟩ = some (.int .i64 v) := ⟨hh1.cell 0, hh1.cell 1, hh1.cell 2, c1⟩
          have HH1 := Lib.hid hh1
          have HO1 := Lib.hid hO1
          have HW1 := Lib.hid hw1
          have HC1 := Lib.hid c1
          have hw1s := hh1.lt
          clear hh1 hO1 hw1 c1
          go_region_held3 (fun wx => wx.cell? ⟨hh, 0, none⟩ = some (.string a1) ∧ wx.cell? ⟨hh, 1, none⟩ = some (.int .i64 a2) ∧ wx.cell? ⟨hh, 2, none⟩ = some (.int .i64 a3) ∧ wx.cell? ⟨b', o' + k, none⟩ = some (.int .i64 v))
            (first | (with_reducible exact s1) | (with_reducible exact s3) | (with_reducible exact s4) | go_keep)
            (first
              | (go_at_call 205
                 (with_reducible refine (HNR.out _).mono ?_)
                 rintro e w3 ⟨rfl, hb3⟩
                 have hh3 := HH1.out.drew.below hb3 HH1.out.lt
                 have hO3 := HO1.out.drew.below hb3 HO1.out.lt
                 have hv3 : w3.cell? ⟨b', o' + k, none⟩ = some (.int .i64 v) := (hb3.cell (p := ⟨b', o' + k, none⟩) (by show b' < W1.heap.size; omega)).trans HC1.out
                 have s3 : w3.cell? ⟨hh, 0, none⟩ = some (.string a1) ∧ w3.cell? ⟨hh, 1, none⟩ = some (.int .i64 a2) ∧ w3.cell? ⟨hh, 2, none⟩ = some (.int .i64 a3) ∧ w3.cell? ⟨b', o' + k, none⟩ = some (.int .i64 v) := ⟨hh3.cell 0, hh3.cell 1, hh3.cell 2, hv3⟩
                 have hh4 := hh3.far (p := ⟨gO, k, none⟩) hgh2 (.int .i64 x)
                 have s4 : (w3.setCell ⟨gO, k, none⟩ (.int .i64 x)).cell? ⟨hh, 0, none⟩ = some (.string a1) ∧ (w3.setCell ⟨gO, k, none⟩ (.int .i64 x)).cell? ⟨hh, 1, none⟩ = some (.int .i64 a2) ∧ (w3.setCell ⟨gO, k, none⟩ (.int .i64 x)).cell? ⟨hh, 2, none⟩ = some (.int .i64 a3) ∧ (w3.setCell ⟨gO, k, none⟩ (.int .i64 x)).cell? ⟨b', o' + k, none⟩ = some (.int .i64 v) :=
                   ⟨hh4.cell 0, hh4.cell 1, hh4.cell 2, (World.cell?_of_block (Below.heap_setCell w3 ⟨gO, k, none⟩ (.int .i64 x) b' hgb)).trans hv3⟩
                 have o3 : w3.cell? ⟨gO, k, none⟩ = some (.int .i64 0) := (hO3.cell k).trans (fitC_at (by rw [HLL.out]; exact hlt))
                 have p3 := hO3.frozen k
                 have hI4 : Bk (w3.setCell ⟨gO, k, none⟩ (.int .i64 x)) gO 3 (fitC L (k + 1)) := by
                   have h := hO3.set_ k (.int .i64 x)
                   rwa [fitC_step HZ.out] at h
                 have hw4 : Below w.heap.size w (w3.setCell ⟨gO, k, none⟩ (.int .i64 x)) := (HW1.out.trans ((show Below W1.heap.size W1 w3 from ⟨hb3.os, hb3.tape, hb3.output, hb3.size, hb3.block⟩).mono HW1.out.size)).setCell (p := ⟨gO, k, none⟩) hgc _
                 have HI4 := Lib.hid (And.intro hI4 hw4)
                 clear hb3 hh3 hO3 hv3 hh4 hI4 hw4))
          go_wp2_with fail
          go_roundw
          case rel => exact ⟨k + 1, by omega, by go_num, HI4⟩
          case measure => simp [intOf]; omega
        · obtain rfl : k = n := by omega
          go_wp2_with fail
          go_ret2
          refine ⟨some ⟨gO, 0, none⟩, k, by (show _ = Ending.returned (.tuple #[.slice (some ⟨gO, 0, none⟩) L.length k, .int .i64 0])); rw [HLL.out]; rfl, ?_, HI.out.2⟩
          have hI := HI.out.1
          rw [← HLL.out] at hI
          have h := own_of_bk (n := L.length) hgc hI (fitC_full L) (by simp) (by have := HLL.out; omega)
          show wr.ownsRow w.heap.size 3 1 (.slice (some ⟨gO, 0, none⟩) L.length k) L.length (L.map (Value.int .i64))
          have e := HLL.out
          subst e
          exact h
    · have hnz : ¬ ((n : Int) = fn) := by omega
      have hRR : R = ([], 1) := by
        rw [HH.out]; unfold fitF
        rw [if_neg (by rw [← HRR.out]; simp), if_pos (by rw [← HN.out, ← HFN.out]; exact hnn)]
      subst hRR
      clear HH
      go_wp2_with fail
      go_ret2
      exact ⟨none, 0, rfl, World.ownsRow_nil _ _ _ _, HB2.out⟩
  · have hRR : R = ([], r) := by
      rw [HH.out]; unfold fitF
      rw [if_pos (by rw [← HRR.out]; exact h0), ← HRR.out]
    subst hRR
    clear HH
    go_wp2_with fail
    go_ret2
    exact ⟨none, 0, rfl, World.ownsRow_nil _ _ _ _, HB2.out⟩
end Go.Proofs.Ytnidcmhfbkdioaa
