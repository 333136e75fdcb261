/-
  The contracts of kind.High, Near, Fit, Holds; components as data. Conditions: what is read can be read.
-/
import Derived.Test.YtnidcmhfbkdioaaWa
namespace Go.Proofs.Ytnidcmhfbkdioaa
open Go.RowKit
set_option maxRecDepth 100000

/-! ### Wc -/
def highF (f : Fd) : Int := if fieldF f = 0 then f.low + (2 ^ f.bits.toNat - 1) else 0
theorem field_ok {f : Fd} (h : fieldF f = 0) : 1 ≤ f.bits ∧ f.bits ≤ 32 ∧ -4294967296 ≤ f.low ∧ f.low ≤ 4294967296 := by
  unfold fieldF at h
  split at h
  · rename_i h2; exact ⟨h2.2.1, h2.2.2.1, h2.2.2.2.1, h2.2.2.2.2⟩
  · cases h
theorem pow2_one (B : Nat) : (1 : Int) ≤ 2 ^ B := by
  have h := Nat.one_le_two_pow (n := B)
  have h2 : ((1 : Nat) : Int) ≤ ((2 ^ B : Nat) : Int) := Int.ofNat_le.2 h
  rwa [Int.natCast_pow] at h2
theorem pow2_32 (B : Nat) (hB : B ≤ 32) : (2 : Int) ^ B ≤ 4294967296 := by
  have h := Nat.pow_le_pow_right (show 0 < 2 by omega) hB
  have h2 : ((2 ^ B : Nat) : Int) ≤ ((2 ^ 32 : Nat) : Int) := Int.ofNat_le.2 h
  rw [Int.natCast_pow] at h2
  exact h2
set_option maxHeartbeats 1600000 in
theorem high_any (f : Fd) (w : World) : Calls Try.prog 240 #[.agg #[.string f.nm, .int .i64 f.bits, .int .i64 f.low]] w fun e w' => e = .returned (.int .i64 (highF f)) ∧ Below w.heap.size w w' := by
  have hb1 := (Below.refl w.heap.size w).alloc (Nat.le_refl _) (.cells #[.string f.nm, .int .i64 f.bits, .int .i64 f.low] 66)
  have hk1 := Bk.new w 66 #[.string f.nm, .int .i64 f.bits, .int .i64 f.low]
  have HF := Lib.hid (field_any f)
  have HB1 := Lib.hid hb1
  have HK1 := Lib.hid hk1
  clear hb1 hk1
  obtain ⟨r, hr⟩ : ∃ r, r = fieldF f := ⟨_, rfl⟩
  rw [← hr] at HF
  have HR := Lib.hid hr
  clear hr
  obtain ⟨h, hh⟩ : ∃ h, h = highF f := ⟨_, rfl⟩
  rw [← hh]
  have HH := Lib.hid hh
  clear hh
  generalize hfb : f.bits = fb at *
  generalize hfl : f.low = fl at *
  generalize hfn : f.nm = fn at *
  have HFB := Lib.hid (And.intro hfb hfl)
  clear hfb hfl hfn
  go_enter Try.func240, Try.ntmps240
  go_wp2_with fail
  refine (HF.out _).mono ?_
  rintro e w2 ⟨rfl, hb2⟩
  have hk2 := HK1.out.below hb2 (by simp)
  have c1 : w2.cell? ⟨w.heap.size, 1, none⟩ = some (.int .i64 fb) := hk2.cell 1
  have c2 : w2.cell? ⟨w.heap.size, 2, none⟩ = some (.int .i64 fl) := hk2.cell 2
  have HB2 := Lib.hid (HB1.out.trans (hb2.mono (by simp)))
  clear hk2 hb2
  by_cases h0 : r = 0
  · obtain ⟨k1, k2, k3, k4⟩ := field_ok (f := f) (by rw [← HR.out]; exact h0)
    rw [HFB.out.1] at k1 k2
    rw [HFB.out.2] at k3 k4
    obtain ⟨B, rfl⟩ : ∃ B : Nat, fb = B := ⟨fb.toNat, by omega⟩
    have p1 := pow2_one B
    have p2 := pow2_32 B (by omega)
    have P := Lib.hid (And.intro p1 p2)
    have KK := Lib.hid (And.intro k3 k4)
    clear p1 p2 k3 k4
    subst h0
    have kb : (0 : Int) ≤ B := by omega
    go_wp2_with fail
    go_quiet (fail)
    have hE : wrap64 (fl + wrap64 (wrap64 (2 ^ B) - 1)) = h := by
      have hh := HH.out
      unfold highF at hh
      rw [if_pos HR.out.symm, HFB.out.1, HFB.out.2, Int.toNat_natCast] at hh
      rw [hh]
      have hP := P.out
      have hK := KK.out
      clear hh HH HR HFB HF HK1
      generalize (2 : Int) ^ B = M at *
      unfold wrap64
      omega
    go_wp2_with fail
    go_ret
    exact ⟨by rw [hE]; rfl, below_dn HB2.out _⟩
  · go_wp2_with fail
    go_ret
    exact ⟨by rw [HH.out]; unfold highF; rw [if_neg (by rw [← HR.out]; exact h0)]; rfl, HB2.out⟩

def nearF (f : Fd) (v : Int) : Int := if fieldF f = 0 then max f.low (min v (highF f)) else 0
set_option maxHeartbeats 1600000 in
theorem near_any (f : Fd) (v : Int) (w : World) : Calls Try.prog 205 #[.agg #[.string f.nm, .int .i64 f.bits, .int .i64 f.low], .int .i64 v] w fun e w' => e = .returned (.int .i64 (nearF f v)) ∧ Below w.heap.size w w' := by
  have hb1 := (Below.refl w.heap.size w).alloc (Nat.le_refl _) (.cells #[.string f.nm, .int .i64 f.bits, .int .i64 f.low] 66)
  have hk1 := Bk.new w 66 #[.string f.nm, .int .i64 f.bits, .int .i64 f.low]
  have HF := Lib.hid (field_any f)
  have HG := Lib.hid (high_any f)
  have HB1 := Lib.hid hb1
  have HK1 := Lib.hid hk1
  clear hb1 hk1
  obtain ⟨r, hr⟩ : ∃ r, r = fieldF f := ⟨_, rfl⟩
  rw [← hr] at HF
  have HR := Lib.hid hr
  clear hr
  obtain ⟨h, hh⟩ : ∃ h, h = nearF f v := ⟨_, rfl⟩
  rw [← hh]
  have HH := Lib.hid hh
  clear hh
  obtain ⟨g, hg⟩ : ∃ g, g = highF f := ⟨_, rfl⟩
  rw [← hg] at HG
  have HGG := Lib.hid hg
  clear hg
  generalize hfb : f.bits = fb at *
  generalize hfl : f.low = fl at *
  generalize hfn : f.nm = fn at *
  have HFB := Lib.hid hfl
  clear hfb hfl hfn
  go_enter Try.func205, Try.ntmps205
  go_wp2_with fail
  refine (HF.out _).mono ?_
  rintro e w2 ⟨rfl, hb2⟩
  have hk2 := HK1.out.below hb2 (by simp)
  have s0 : w2.drew.cell? ⟨w.heap.size, 0, none⟩ = some (.string fn) ∧ w2.drew.cell? ⟨w.heap.size, 1, none⟩ = some (.int .i64 fb) ∧ w2.drew.cell? ⟨w.heap.size, 2, none⟩ = some (.int .i64 fl) := ⟨hk2.cell 0, hk2.cell 1, hk2.cell 2⟩
  have HB2 := Lib.hid (HB1.out.trans (hb2.mono (by simp)))
  have HK2 := Lib.hid hk2
  clear hk2 hb2
  by_cases h0 : r = 0
  · subst h0
    go_wp2_with fail
    go_region_held3 (fun wx => wx.cell? ⟨w.heap.size, 0, none⟩ = some (.string fn) ∧ wx.cell? ⟨w.heap.size, 1, none⟩ = some (.int .i64 fb) ∧ wx.cell? ⟨w.heap.size, 2, none⟩ = some (.int .i64 fl))
      (first | (with_reducible exact s0) | (with_reducible exact s3) | go_keep)
      (first
        | (go_at_call 240
           (with_reducible refine (HG.out _).mono ?_)
           rintro e w3 ⟨rfl, hb3⟩
           have hk3 := HK2.out.drew.below hb3 HK2.out.lt
           have s3 : w3.cell? ⟨w.heap.size, 0, none⟩ = some (.string fn) ∧ w3.cell? ⟨w.heap.size, 1, none⟩ = some (.int .i64 fb) ∧ w3.cell? ⟨w.heap.size, 2, none⟩ = some (.int .i64 fl) := ⟨hk3.cell 0, hk3.cell 1, hk3.cell 2⟩
           have HB3 := Lib.hid (HB2.out.drew.trans (hb3.mono HB2.out.size))
           clear hk3 hb3))
    go_wp2_with fail
    all_goals
      go_ret
      exact ⟨by rw [HH.out]; unfold nearF; rw [if_pos HR.out.symm, HFB.out, ← HGG.out]; (first | rfl | exact ret_i (by omega)), HB3.out⟩
  · go_wp2_with fail
    go_ret
    exact ⟨by rw [HH.out]; unfold nearF; rw [if_neg (by rw [← HR.out]; exact h0)]; rfl, HB2.out⟩

/-! ### Wd -/
theorem oneF_len {nm : ByteArray} {fds : List Fd} (h : oneF nm fds = 0) : fds.length ≤ 8 := by
  unfold oneF at h
  split at h
  · cases h
  · split at h
    · cases h
    · omega
def zipF (fds : List Fd) (vals : List Int) : List Int := List.zipWith nearF fds vals
def fitF (nm : ByteArray) (fds : List Fd) (vals : List Int) : List Int × Int :=
  if oneF nm fds ≠ 0 then ([], oneF nm fds) else if vals.length ≠ fds.length then ([], 1) else (zipF fds vals, 0)
def fitC (L : List Int) (k : Nat) : Array Value := ((L.take k ++ List.replicate (L.length - k) 0).map (Value.int .i64)).toArray
theorem fitC_zero (L : List Int) : fitC L 0 = Array.replicate L.length (Value.int .i64 0) := by
  unfold fitC
  simp
theorem fitC_step {L : List Int} {k : Nat} {x : Int} (h : L[k]? = some x) : (fitC L k).setIfInBounds k (.int .i64 x) = fitC L (k + 1) := by
  have hk : k < L.length := (List.getElem?_eq_some_iff.1 h).1
  unfold fitC
  rw [show L.length - k = (L.length - (k + 1)) + 1 by omega, List.replicate_succ, List.take_add_one, h]
  apply Array.ext'
  simp [Nat.min_eq_left (Nat.le_of_lt hk)]
theorem fitC_at {L : List Int} {k : Nat} (h : k < L.length) : (fitC L k)[k]? = some (.int .i64 0) := by
  unfold fitC
  obtain ⟨m, hm⟩ : ∃ m, L.length - k = m + 1 := ⟨L.length - k - 1, by omega⟩
  rw [hm]
  simp [Nat.min_eq_left (Nat.le_of_lt h)]
theorem fitC_full (L : List Int) : (fitC L L.length).toList = L.map (Value.int .i64) := by
  unfold fitC
  simp
theorem zipF_at {fds : List Fd} {vals : List Int} {k : Nat} {f : Fd} {v : Int} (h : fds[k]? = some f) (h2 : vals[k]? = some v) : (zipF fds vals)[k]? = some (nearF f v) := by
  unfold zipF
  rw [List.getElem?_zipWith, h, h2]
theorem own_full {w : World} {base n g : Nat} {e : TypeId} {xs : List Value} (h : w.ownsRow base e 1 (.slice (some ⟨g, 0, none⟩) n n) n xs) : base ≤ g ∧ Bk w g e xs.toArray := by
  rcases h.2 with ⟨hv, _⟩ | ⟨g', cap, cur, hv, hb, hh, _, _, hs, ht⟩
  · cases hv
  · simp only [Value.slice.injEq, Option.some.injEq, Addr.mk.injEq, and_true, true_and] at hv
    obtain ⟨rfl, rfl⟩ := hv
    refine ⟨hb, ?_⟩
    have : cur = xs.toArray := by
      rw [← ht, List.take_of_length_le (by simp [hs])]
    rw [← this]; exact hh
theorem own_of_bk {w : World} {base g n : Nat} {e : TypeId} {cs : Array Value} {xs : List Value} (hg : base ≤ g) (hb : Bk w g e cs) (hc : cs.toList = xs) (hn : n = xs.length) (hm : n ≤ 1000000) : w.ownsRow base e 1 (.slice (some ⟨g, 0, none⟩) n n) n xs := by
  have hs : cs.size = n := by rw [hn, ← hc]; simp
  exact ⟨by simp [hn], .inr ⟨g, n, cs, rfl, hg, hb, Nat.le_refl _, by unfold maxLen; omega, by simp [hs], by rw [hc, List.take_of_length_le (by simp [hn])]⟩⟩
theorem made_rep (N : Nat) : ((madeCells (Value.int .i64 0).cells (N * 1)).toList).toArray = Array.replicate N (Value.int .i64 0) := by
  rw [Nat.mul_one]
  apply Array.ext'
  simp only [madeCells]
  apply List.ext_getElem?
  intro j
  by_cases hj : j < N
  · simp [hj, Value.cells, Nat.mod_one]
  · simp [hj]
def FitP (w : World) (r : List Int × Int) (e : Ending) (w' : World) : Prop :=
  ∃ A c, e = .returned (.tuple #[.slice A r.1.length c, .int .i64 r.2]) ∧ w'.ownsRow w.heap.size 3 1 (.slice A r.1.length c) r.1.length (r.1.map (Value.int .i64)) ∧ Below w.heap.size w w'

set_option maxHeartbeats 3200000 in
theorem fit_any (nm : ByteArray) (fA : Option Addr) (fn fc : Nat) (fds : List Fd) (A : Option Addr) (n c B : Nat) (vals : List Int) (w : World) (hr : Rd w B 3 fA fn (fdCs fds)) (hfn : fn = fds.length) (hfc : fn ≤ fc) (hfc2 : fc ≤ 9223372036854775807)
    (hv : Rd w B 1 A n (vals.map (Value.int .i64))) (hn : n = vals.length) (hnc : n ≤ c) (_hc2 : c ≤ 9223372036854775807) (hB : B ≤ w.heap.size) :
    Calls Try.prog 156 #[.agg #[.string nm, .slice fA fn fc], .slice A n c] w (FitP w (fitF nm fds vals)) := by
  have hb1 := (Below.refl w.heap.size w).alloc (Nat.le_refl _) (.cells #[.string nm, .slice fA fn fc] 63)
  have hk1 := Bk.new w 63 #[.string nm, .slice fA fn fc]
  have HO := Lib.hid (one_any nm fA fn fc B fds _ (hr.below (hb1.mono hB)) hfn hfc hfc2 (by simp; omega))
  have HR := Lib.hid hr
  have HV := Lib.hid hv
  have HB1 := Lib.hid hb1
  have HK1 := Lib.hid hk1
  have HFN := Lib.hid hfn
  have HN := Lib.hid hn
  clear hb1 hk1 hr hv hfn hn
  obtain ⟨r, hr⟩ : ∃ r, r = oneF nm fds := ⟨_, rfl⟩
  rw [← hr] at HO
  have HRR := Lib.hid hr
  clear hr
  obtain ⟨R, hR⟩ : ∃ R, R = fitF nm fds vals := ⟨_, rfl⟩
  rw [← hR]
  have HH := Lib.hid hR
  clear hR
  go_enter Try.func156, Try.ntmps156
  go_wp2_with fail
  refine HO.out.mono ?_
  rintro e w2 ⟨rfl, hb2⟩
  have hk2 := HK1.out.below hb2 (by simp)
  have x1 : w2.cell? ⟨w.heap.size, 1, none⟩ = some (.slice fA fn fc) := hk2.cell 1
  have HB2 := Lib.hid (HB1.out.trans (hb2.mono (by simp)))
  have HK2 := Lib.hid hk2
  clear hk2 hb2
  by_cases h0 : r = 0
  · have hlen := oneF_len (nm := nm) (fds := fds) (by rw [← HRR.out]; exact h0)
    rw [← HFN.out] at hlen
    subst h0
    by_cases hnn : n = fn
    · subst hnn
      have hRR : R = (zipF fds vals, 0) := by
        rw [HH.out]; unfold fitF
        rw [if_neg (by rw [← HRR.out]; simp), if_neg (by rw [← HN.out, ← HFN.out]; simp)]
      obtain ⟨L, hL⟩ : ∃ L, L = zipF fds vals := ⟨_, rfl⟩
      have hLl : L.length = n := by rw [hL]; unfold zipF; rw [List.length_zipWith, ← HN.out, ← HFN.out]; simp
      rw [← hL] at hRR
      subst hRR
      have HL := Lib.hid hL
      have HLL := Lib.hid hLl
      clear hL hLl HH
      obtain ⟨i0, hi0, hz0, hz1, hz2⟩ := info_parts T.info3
      go_wp2_with
        (at_make
         go_must (refine wpList_make_full _ rfl _ _ 30 rfl w.heap.size 3 i0 (.int .i64 0) 1 Try.underlying30 hi0 hz0 hz1 .i64 .i64 _ _ n rfl rfl rfl rfl (by rw [hz2]; omega) (by unfold maxLen; omega) HB2.out.size ?_)
         go_loud (
           intro w3 hown3 hg3
           obtain ⟨hgc, hbk3⟩ := own_full hown3
           rw [made_rep, ← HLL.out, ← fitC_zero] at hbk3
           have hk3 := HK2.out.grown hg3 (by simp)
           have x3 : w3.cell? ⟨w.heap.size, 1, none⟩ = some (.slice fA n fc) := hk3.cell 1
           have hb3 := HB2.out.grown hg3 (HB2.out.size) (fun q hq => by cases hq)
           clear hown3))
      obtain ⟨gO, hgO⟩ : ∃ g, g = w2.heap.size := ⟨_, rfl⟩
      rw [← hgO] at hbk3 hgc ⊢
      have HI0 : Hid (Bk w3 gO 3 (fitC L 0) ∧ Below w.heap.size w w3) := Lib.hid ⟨hbk3, hb3⟩
      have HGO := Lib.hid hgO
      clear hbk3 hb3 hk3 hg3 hgO x1
      have hn8 : (n : Int) ≤ 8 := by omega
      go_loopw [27] (fun iv wr => ∃ k : Nat, k ≤ n ∧ iv = .int .i64 k ∧ Hid (Bk wr gO 3 (fitC L k) ∧ Below w.heap.size w wr)) (fun iv _ => n - (intOf iv).toNat)
      case atStart => exact ⟨0, Nat.zero_le _, rfl, HI0⟩
      case round =>
        clear HI0
        obtain ⟨k, hk, rfl, HI⟩ := hrel
        by_cases hlt : k < n
        · have hkz : (k : Int) < n := by omega
          obtain ⟨f, hf⟩ : ∃ f, fds[k]? = some f := ⟨_, List.getElem?_eq_getElem (by have := HFN.out; omega)⟩
          obtain ⟨v, hv⟩ : ∃ v, vals[k]? = some v := ⟨_, List.getElem?_eq_getElem (by have := HN.out; omega)⟩
          have hzf := zipF_at hf hv
          rw [← HL.out] at hzf
          obtain ⟨b, o, rfl, hbb, q0, q1, q2⟩ := (HR.out.below (HI.out.2.mono hB)).fd hlt hf
          obtain ⟨b', o', rfl, hbb', c0⟩ := (HV.out.below (HI.out.2.mono hB)).at1 hlt (u := .int .i64 v) (by rw [List.getElem?_map, hv]; rfl)
          obtain ⟨x, hx⟩ : ∃ x, x = nearF f v := ⟨_, rfl⟩
          rw [← hx] at hzf
          have HNR := Lib.hid (near_any f v)
          rw [← hx] at HNR
          generalize f.nm = a1 at *
          generalize f.bits = a2 at *
          generalize f.low = a3 at *
          have HZ := Lib.hid hzf
          clear hf hv hx hzf
          go_wp2_with fail
          have hb1 := (Below.refl wr.heap.size wr).alloc (Nat.le_refl _) (.cells #[.string a1, .int .i64 a2, .int .i64 a3] 66)
          have hh1 := Bk.new wr 66 #[.string a1, .int .i64 a2, .int .i64 a3]
          have hO1 := HI.out.1.alloc (.cells #[.string a1, .int .i64 a2, .int .i64 a3] 66)
          have hw1 := HI.out.2.trans (hb1.mono HI.out.2.size)
          have hbw : b' < wr.heap.size := Nat.lt_of_lt_of_le hbb' (Nat.le_trans hB HI.out.2.size)
          have c1 := (hb1.cell (p := ⟨b', o' + k, none⟩) hbw).trans c0
          have hgh : gO < wr.heap.size := HI.out.1.lt
          have hgb : b' ≠ gO := by have := hgc; omega
          clear hb1 c0 q0 q1 q2
          generalize wr.alloc (.cells #[.string a1, .int .i64 a2, .int .i64 a3] 66) = W1 at *
          generalize wr.heap.size = hh at *
          have hgh2 : hh ≠ gO := by omega
          have s1 : W1.drew.cell? ⟨hh, 0, none⟩ = some (.string a1) ∧ W1.drew.cell? ⟨hh, 1, none⟩ = some (.int .i64 a2) ∧ W1.drew.cell? ⟨hh, 2, none⟩ = some (.int .i64 a3) ∧ W1.drew.cell? ⟨b', o' + k, none⟩ = some (.int .i64 v) := ⟨hh1.cell 0, hh1.cell 1, hh1.cell 2, c1⟩
          have HH1 := Lib.hid hh1
          have HO1 := Lib.hid hO1
          have HW1 := Lib.hid hw1
          have HC1 := Lib.hid c1
          have hw1s := hh1.lt
          clear hh1 hO1 hw1 c1
          go_region_held3 (fun wx => wx.cell? ⟨hh, 0, none⟩ = some (.string a1) ∧ wx.cell? ⟨hh, 1, none⟩ = some (.int .i64 a2) ∧ wx.cell? ⟨hh, 2, none⟩ = some (.int .i64 a3) ∧ wx.cell? ⟨b', o' + k, none⟩ = some (.int .i64 v))
            (first | (with_reducible exact s1) | (with_reducible exact s3) | (with_reducible exact s4) | go_keep)
            (first
              | (go_at_call 205
                 (with_reducible refine (HNR.out _).mono ?_)
                 rintro e w3 ⟨rfl, hb3⟩
                 have hh3 := HH1.out.drew.below hb3 HH1.out.lt
                 have hO3 := HO1.out.drew.below hb3 HO1.out.lt
                 have hv3 : w3.cell? ⟨b', o' + k, none⟩ = some (.int .i64 v) := (hb3.cell (p := ⟨b', o' + k, none⟩) (by show b' < W1.heap.size; omega)).trans HC1.out
                 have s3 : w3.cell? ⟨hh, 0, none⟩ = some (.string a1) ∧ w3.cell? ⟨hh, 1, none⟩ = some (.int .i64 a2) ∧ w3.cell? ⟨hh, 2, none⟩ = some (.int .i64 a3) ∧ w3.cell? ⟨b', o' + k, none⟩ = some (.int .i64 v) := ⟨hh3.cell 0, hh3.cell 1, hh3.cell 2, hv3⟩
                 have hh4 := hh3.far (p := ⟨gO, k, none⟩) hgh2 (.int .i64 x)
                 have s4 : (w3.setCell ⟨gO, k, none⟩ (.int .i64 x)).cell? ⟨hh, 0, none⟩ = some (.string a1) ∧ (w3.setCell ⟨gO, k, none⟩ (.int .i64 x)).cell? ⟨hh, 1, none⟩ = some (.int .i64 a2) ∧ (w3.setCell ⟨gO, k, none⟩ (.int .i64 x)).cell? ⟨hh, 2, none⟩ = some (.int .i64 a3) ∧ (w3.setCell ⟨gO, k, none⟩ (.int .i64 x)).cell? ⟨b', o' + k, none⟩ = some (.int .i64 v) :=
                   ⟨hh4.cell 0, hh4.cell 1, hh4.cell 2, (World.cell?_of_block (Below.heap_setCell w3 ⟨gO, k, none⟩ (.int .i64 x) b' hgb)).trans hv3⟩
                 have o3 : w3.cell? ⟨gO, k, none⟩ = some (.int .i64 0) := (hO3.cell k).trans (fitC_at (by rw [HLL.out]; exact hlt))
                 have p3 := hO3.frozen k
                 have hI4 : Bk (w3.setCell ⟨gO, k, none⟩ (.int .i64 x)) gO 3 (fitC L (k + 1)) := by
                   have h := hO3.set_ k (.int .i64 x)
                   rwa [fitC_step HZ.out] at h
                 have hw4 : Below w.heap.size w (w3.setCell ⟨gO, k, none⟩ (.int .i64 x)) := (HW1.out.trans ((show Below W1.heap.size W1 w3 from ⟨hb3.os, hb3.tape, hb3.output, hb3.size, hb3.block⟩).mono HW1.out.size)).setCell (p := ⟨gO, k, none⟩) hgc _
                 have HI4 := Lib.hid (And.intro hI4 hw4)
                 clear hb3 hh3 hO3 hv3 hh4 hI4 hw4))
          go_wp2_with fail
          go_roundw
          case rel => exact ⟨k + 1, by omega, by go_num, HI4⟩
          case measure => simp [intOf]; omega
        · obtain rfl : k = n := by omega
          go_wp2_with fail
          go_ret2
          refine ⟨some ⟨gO, 0, none⟩, k, by (show _ = Ending.returned (.tuple #[.slice (some ⟨gO, 0, none⟩) L.length k, .int .i64 0])); rw [HLL.out]; rfl, ?_, HI.out.2⟩
          have hI := HI.out.1
          rw [← HLL.out] at hI
          have h := own_of_bk (n := L.length) hgc hI (fitC_full L) (by simp) (by have := HLL.out; omega)
          show wr.ownsRow w.heap.size 3 1 (.slice (some ⟨gO, 0, none⟩) L.length k) L.length (L.map (Value.int .i64))
          have e := HLL.out
          subst e
          exact h
    · have hnz : ¬ ((n : Int) = fn) := by omega
      have hRR : R = ([], 1) := by
        rw [HH.out]; unfold fitF
        rw [if_neg (by rw [← HRR.out]; simp), if_pos (by rw [← HN.out, ← HFN.out]; exact hnn)]
      subst hRR
      clear HH
      go_wp2_with fail
      go_ret2
      exact ⟨none, 0, rfl, World.ownsRow_nil _ _ _ _, HB2.out⟩
  · have hRR : R = ([], r) := by
      rw [HH.out]; unfold fitF
      rw [if_pos (by rw [← HRR.out]; exact h0), ← HRR.out]
    subst hRR
    clear HH
    go_wp2_with fail
    go_ret2
    exact ⟨none, 0, rfl, World.ownsRow_nil _ _ _ _, HB2.out⟩

/-! ### We -/
def holdsF (nm : ByteArray) (fds : List Fd) (vals : List Int) : Bool := decide ((fitF nm fds vals).2 = 0) && decide ((fitF nm fds vals).1 = vals)
theorem fitF_ok {nm : ByteArray} {fds : List Fd} {vals : List Int} (h : (fitF nm fds vals).2 = 0) : (fitF nm fds vals).1.length = vals.length := by
  unfold fitF at h ⊢
  split at h
  · rename_i h1; exact absurd h h1
  · rename_i h1
    rw [if_neg h1]
    split at h
    · cases h
    · rename_i h2
      rw [if_neg h2]
      unfold zipF
      rw [List.length_zipWith]
      omega

set_option maxHeartbeats 3200000 in
theorem holds_any (nm : ByteArray) (fA : Option Addr) (fn fc : Nat) (fds : List Fd) (A : Option Addr) (n c B : Nat) (vals : List Int) (w : World) (hr : Rd w B 3 fA fn (fdCs fds)) (hfn : fn = fds.length) (hfc : fn ≤ fc) (hfc2 : fc ≤ 9223372036854775807)
    (hv : Rd w B 1 A n (vals.map (Value.int .i64))) (hn : n = vals.length) (hnc : n ≤ c) (hc2 : c ≤ 9223372036854775807) (hB : B ≤ w.heap.size) :
    Calls Try.prog 174 #[.agg #[.string nm, .slice fA fn fc], .slice A n c] w fun e w' => e = .returned (.bool (holdsF nm fds vals)) ∧ Below w.heap.size w w' := by
  have hb1 := (Below.refl w.heap.size w).alloc (Nat.le_refl _) (.cells #[.string nm, .slice fA fn fc] 63)
  have HO := Lib.hid (fit_any nm fA fn fc fds A n c B vals _ (hr.below (hb1.mono hB)) hfn hfc hfc2 (hv.below (hb1.mono hB)) hn hnc hc2 (by simp; omega))
  have HV := Lib.hid hv
  have HB1 := Lib.hid hb1
  have HN := Lib.hid hn
  clear hb1 hr hv hfn hn
  obtain ⟨L, hL⟩ : ∃ L, L = (fitF nm fds vals).1 := ⟨_, rfl⟩
  obtain ⟨r, hr⟩ : ∃ r, r = (fitF nm fds vals).2 := ⟨_, rfl⟩
  obtain ⟨R, hR⟩ : ∃ R, R = holdsF nm fds vals := ⟨_, rfl⟩
  have hRv : R = (decide (r = 0) && decide (L = vals)) := by rw [hR, hr, hL]; rfl
  have hlen : r = 0 → L.length = n := fun h => by rw [hL, HN.out]; exact fitF_ok (by rw [← hr]; exact h)
  have HO2 : Hid (Calls Try.prog 156 #[.agg #[.string nm, .slice fA fn fc], .slice A n c] (w.alloc (.cells #[.string nm, .slice fA fn fc] 63)) (FitP (w.alloc (.cells #[.string nm, .slice fA fn fc] 63)) (L, r))) := Lib.hid (by rw [hL, hr]; exact HO.out)
  rw [← hR]
  have HRV := Lib.hid hRv
  have HLEN := Lib.hid hlen
  clear hL hr hR HO hRv hlen
  go_enter Try.func174, Try.ntmps174
  go_wp2_with fail
  refine HO2.out.mono ?_
  rintro e w2 ⟨A2, c2, rfl, hown, hb2⟩
  dsimp only at hown
  have hrd := Rd.of_own hown
  have HR2 := Lib.hid hrd
  have HB2 := Lib.hid (HB1.out.trans (hb2.mono (by simp)))
  clear hown hb2 hrd
  obtain ⟨q, hq⟩ : ∃ q, q = L.length := ⟨_, rfl⟩
  rw [← hq] at HR2 HLEN
  dsimp only
  rw [← hq]
  have HQ := Lib.hid hq
  clear hq
  by_cases h0 : r = 0
  · have hqn : q = n := HLEN.out h0
    subst h0 hqn
    have hRv := HRV.out
    rw [decide_eq_true rfl, Bool.true_and] at hRv
    have HRX := Lib.hid hRv
    clear hRv
    go_wp2_with fail
    go_loopw [18] (fun iv wr => ∃ k : Nat, k ≤ q ∧ iv = .int .i64 k ∧ L.take k = vals.take k ∧ Hid (Below w2.heap.size w2 wr)) (fun iv _ => q - (intOf iv).toNat)
    case atStart => exact ⟨0, Nat.zero_le _, rfl, rfl, Lib.hid (Below.refl _ _)⟩
    case round =>
      obtain ⟨k, hk, rfl, hT, HW⟩ := hrel
      have HT := Lib.hid hT
      clear hT
      by_cases hlt : k < q
      · have e1 := HN.out
        have e2 := HQ.out
        obtain ⟨x, hx⟩ : ∃ x, L[k]? = some x := ⟨_, List.getElem?_eq_getElem (by omega)⟩
        obtain ⟨y, hy⟩ : ∃ y, vals[k]? = some y := ⟨_, List.getElem?_eq_getElem (by omega)⟩
        obtain ⟨b, o, rfl, _, c0⟩ := (HR2.out.below HW.out).at1 hlt (u := .int .i64 x) (by rw [List.getElem?_map, hx]; rfl)
        obtain ⟨b', o', rfl, _, c1⟩ := ((HV.out.below (HB2.out.mono hB)).below (HW.out.mono (Nat.le_trans hB HB2.out.size))).at1 hlt (u := .int .i64 y) (by rw [List.getElem?_map, hy]; rfl)
        have HX := Lib.hid hx
        have HY := Lib.hid hy
        have hkn : (k : Int) < q := by omega
        clear e1 e2 hx hy
        go_wp2_with fail
        go_quiet (fail)
        by_cases hxy : x = y
        · have t1 : (x != y) = false := by simp [hxy]
          have HXY := Lib.hid hxy
          have HW2 := Lib.hid (below_dn HW.out nq)
          clear hxy
          go_wp2_with fail
          go_roundw
          case measure => simp [intOf]; omega
          case rel => exact ⟨k + 1, by omega, by go_num, take_eq_succ HX.out HY.out HT.out HXY.out, HW2⟩
        · have t1 : (x != y) = true := by simp; omega
          have HXY := Lib.hid hxy
          have HW2 := Lib.hid (below_dn HW.out nq)
          clear hxy
          go_wp2_with fail
          go_ret
          exact ⟨ret_b (by rw [HRX.out]; simp [ne_of_at HX.out HY.out HXY.out]), HB2.out.trans (HW2.out.mono HB2.out.size)⟩
      · obtain rfl : k = q := by omega
        go_wp2_with fail
        go_ret
        have h1 := HT.out
        rw [List.take_of_length_le (by rw [← HQ.out]; omega), List.take_of_length_le (by rw [← HN.out]; omega)] at h1
        exact ⟨ret_b (by rw [HRX.out]; simp [h1]), HB2.out.trans (HW.out.mono HB2.out.size)⟩
  · have hRv := HRV.out
    rw [decide_eq_false h0, Bool.false_and] at hRv
    subst hRv
    go_wp2_with fail
    go_ret
    exact ⟨rfl, HB2.out⟩

/-! ### Wf -/
structure Cm where
  k : Int
  A : Option Addr
  n : Nat
  c : Nat
  vals : List Int
def Cm.cs (x : Cm) : List Value := [.int .i64 x.k, .slice x.A x.n x.c]
def cmCs (l : List Cm) : List Value := l.flatMap Cm.cs
structure CmOk (w : World) (B : Nat) (x : Cm) : Prop where
  rd : Rd w B 1 x.A x.n (x.vals.map (Value.int .i64))
  len : x.n = x.vals.length
  cap : x.n ≤ x.c
  cap2 : x.c ≤ 9223372036854775807
  wf : (Lit.int .i64 x.k).wf = true
theorem CmOk.below {w w' : World} {B : Nat} {x : Cm} (h : CmOk w B x) (hb : Below B w w') : CmOk w' B x := ⟨h.rd.below hb, h.len, h.cap, h.cap2, h.wf⟩
def Cm.p (x : Cm) : Int × List Int := (x.k, x.vals)
theorem cmCs_get (l : List Cm) (k j : Nat) (f : Cm) (h : l[k]? = some f) (hj : j < 2) : (cmCs l)[k * 2 + j]? = (Cm.cs f)[j]? := by
  induction l generalizing k with
  | nil => simp at h
  | cons a l ih =>
    have e : cmCs (a :: l) = Cm.cs a ++ cmCs l := by simp [cmCs]
    rw [e]
    cases k with
    | zero =>
      have ea : a = f := by simpa using h
      subst ea
      rw [List.getElem?_append_left (by simp [Cm.cs]; omega)]
      congr 1; omega
    | succ k =>
      rw [List.getElem?_append_right (by simp [Cm.cs]; omega)]
      rw [show (k + 1) * 2 + j - (Cm.cs a).length = k * 2 + j by simp [Cm.cs]; omega]
      exact ih k (by simpa using h)
theorem Rd.cm {w : World} {B n : Nat} {A : Option Addr} {l : List Cm} {k : Nat} {f : Cm} (h : Rd w B 2 A n (cmCs l)) (hk : k < n) (hf : l[k]? = some f) :
    ∃ b o, A = some ⟨b, o, none⟩ ∧ b < B ∧ w.cell? ⟨b, o + k * 2, none⟩ = some (.int .i64 f.k) ∧ w.cell? ⟨b, o + k * 2 + 1, none⟩ = some (.slice f.A f.n f.c) := by
  obtain ⟨b, o, e, hb, hc⟩ := h.2 (by omega)
  exact ⟨b, o, e, hb, hc (k * 2) _ ((cmCs_get l k 0 f hf (by omega)).trans rfl), by rw [Nat.add_assoc]; exact hc (k * 2 + 1) _ ((cmCs_get l k 1 f hf (by omega)).trans rfl)⟩
structure CsOk (w : World) (B : Nat) (A : Option Addr) (n c : Nat) (l : List Cm) : Prop where
  rd : Rd w B 2 A n (cmCs l)
  len : n = l.length
  cap : n ≤ c
  cap2 : c ≤ 9223372036854775807
  ok : ∀ x ∈ l, CmOk w B x
  lo : B ≤ w.heap.size
theorem CsOk.below {w w' : World} {B n c : Nat} {A : Option Addr} {l : List Cm} (h : CsOk w B A n c l) (hb : Below B w w') : CsOk w' B A n c l :=
  ⟨h.rd.below hb, h.len, h.cap, h.cap2, fun x hx => (h.ok x hx).below hb, Nat.le_trans h.lo hb.size⟩
theorem CsOk.more {w : World} {B B' n c : Nat} {A : Option Addr} {l : List Cm} (h : CsOk w B A n c l) (hB : B ≤ B') (hB' : B' ≤ w.heap.size) : CsOk w B' A n c l :=
  ⟨h.rd.more hB, h.len, h.cap, h.cap2, fun x hx => ⟨(h.ok x hx).rd.more hB, (h.ok x hx).len, (h.ok x hx).cap, (h.ok x hx).cap2, (h.ok x hx).wf⟩, hB'⟩
/-- One component. -/
def heldOne (ks : List (ByteArray × List Fd)) (last : Int) (x : Int × List Int) : Bool :=
  decide (last < x.1) && match ks[x.1.toNat]? with
    | some k => holdsF k.1 k.2 x.2
    | none => false
def heldF (ks : List (ByteArray × List Fd)) : Int → List (Int × List Int) → Bool
  | _, [] => true
  | last, x :: l => heldOne ks last x && heldF ks x.1 l
end Go.Proofs.Ytnidcmhfbkdioaa
