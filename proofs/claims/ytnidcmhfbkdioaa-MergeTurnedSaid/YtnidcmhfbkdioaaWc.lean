/-
  The contracts of kind.High, Near, Fit, Holds. Conditions: what is read can be read.
-/
import Derived.Test.YtnidcmhfbkdioaaWa
namespace Go.Proofs.Ytnidcmhfbkdioaa
open Go.RowKit
set_option maxRecDepth 100000

def highF (f : Fd) : Int := if fieldF f = 0 then f.low + (2 ^ f.bits.toNat - 1) else 0
theorem field_ok {f : Fd} (h : fieldF f = 0) : 1 ≤ f.bits ∧ f.bits ≤ 32 ∧ -4294967296 ≤ f.low ∧ f.low ≤ 4294967296 := by
  unfold fieldF at h
  split at h
  · rename_i h2; exact ⟨h2.2.1, h2.2.2.1, h2.2.2.2.1, h2.2.2.2.2⟩
  · cases h
theorem pow2_one (B : Nat) : (1 : Int) ≤ 2 ^ B := by
  have h := Nat.one_le_two_pow (n := B)
  have h2 : ((1 : Nat) : Int) ≤ ((2 ^ B : Nat) : Int) := Int.ofNat_le.2 h
  rwa [Int.natCast_pow] at h2
theorem pow2_32 (B : Nat) (hB : B ≤ 32) : (2 : Int) ^ B ≤ 4294967296 := by
  have h := Nat.pow_le_pow_right (show 0 < 2 by omega) hB
  have h2 : ((2 ^ B : Nat) : Int) ≤ ((2 ^ 32 : Nat) : Int) := Int.ofNat_le.2 h
  rw [Int.natCast_pow] at h2
  exact h2
set_option maxHeartbeats 1600000 in
theorem high_any (f : Fd) (w : World) : Calls Try.prog 240 #[.agg #[.string f.nm, .int .i64 f.bits, .int .i64 f.low]] w fun e w' => e = .returned (.int .i64 (highF f)) ∧ Below w.heap.size w w' := by
  have hb1 := (Below.refl w.heap.size w).alloc (Nat.le_refl _) (.cells #[.string f.nm, .int .i64 f.bits, .int .i64 f.low] 66)
  have hk1 := Bk.new w 66 #[.string f.nm, .int .i64 f.bits, .int .i64 f.low]
  have HF := Lib.hid (field_any f)
  have HB1 := Lib.hid hb1
  have HK1 := Lib.hid hk1
  clear hb1 hk1
  obtain ⟨r, hr⟩ : ∃ r, r = fieldF f := ⟨_, rfl⟩
  rw [← hr] at HF
  have HR := Lib.hid hr
  clear hr
  obtain ⟨h, hh⟩ : ∃ h, h = highF f := ⟨_, rfl⟩
  rw [← hh]
  have HH := Lib.hid hh
  clear hh
  generalize hfb : f.bits = fb at *
  generalize hfl : f.low = fl at *
  generalize hfn : f.nm = fn at *
  have HFB := Lib.hid (And.intro hfb hfl)
  clear hfb hfl hfn
  go_enter Try.func240, Try.ntmps240
  go_wp2_with fail
  refine (HF.out _).mono ?_
  rintro e w2 ⟨rfl, hb2⟩
  have hk2 := HK1.out.below hb2 (by simp)
  have c1 : w2.cell? ⟨w.heap.size, 1, none⟩ = some (.int .i64 fb) := hk2.cell 1
  have c2 : w2.cell? ⟨w.heap.size, 2, none⟩ = some (.int .i64 fl) := hk2.cell 2
  have HB2 := Lib.hid (HB1.out.trans (hb2.mono (by simp)))
  clear hk2 hb2
  by_cases h0 : r = 0
  · obtain ⟨k1, k2, k3, k4⟩ := field_ok (f := f) (by rw [← HR.out]; exact h0)
    rw [HFB.out.1] at k1 k2
    rw [HFB.out.2] at k3 k4
    obtain ⟨B, rfl⟩ : ∃ B : Nat, fb = B := ⟨fb.toNat, by omega⟩
    have p1 := pow2_one B
    have p2 := pow2_32 B (by omega)
    have P := Lib.hid (And.intro p1 p2)
    have KK := Lib.hid (And.intro k3 k4)
    clear p1 p2 k3 k4
    subst h0
    have kb : (0 : Int) ≤ B := by omega
    go_wp2_with fail
    go_quiet (fail)
    have hE : wrap64 (fl + wrap64 (wrap64 (2 ^ B) - 1)) = h := by
      have hh := HH.out
      unfold highF at hh
      rw [if_pos HR.out.symm, HFB.out.1, HFB.out.2, Int.toNat_natCast] at hh
      rw [hh]
      have hP := P.out
      have hK := KK.out
      clear hh HH HR HFB HF HK1
      generalize (2 : Int) ^ B = M at *
      unfold wrap64
      omega
    go_wp2_with fail
    go_ret
    exact ⟨by rw [hE]; rfl, below_dn HB2.out _⟩
  · go_wp2_with fail
    go_ret
    exact ⟨by rw [HH.out]; unfold highF; rw [if_neg (by rw [← HR.out]; exact h0)]; rfl, HB2.out⟩

def nearF (f : Fd) (v : Int) : Int := if fieldF f = 0 then max f.low (min v (highF f)) else 0
set_option maxHeartbeats 1600000 in
theorem near_any (f : Fd) (v : Int) (w : World) : Calls Try.prog 205 #[.agg #[.string f.nm, .int .i64 f.bits, .int .i64 f.low], .int .i64 v] w fun e w' => e = .returned (.int .i64 (nearF f v)) ∧ Below w.heap.size w w' := by
  have hb1 := (Below.refl w.heap.size w).alloc (Nat.le_refl _) (.cells #[.string f.nm, .int .i64 f.bits, .int .i64 f.low] 66)
  have hk1 := Bk.new w 66 #[.string f.nm, .int .i64 f.bits, .int .i64 f.low]
  have HF := Lib.hid (field_any f)
  have HG := Lib.hid (high_any f)
  have HB1 := Lib.hid hb1
  have HK1 := Lib.hid hk1
  clear hb1 hk1
  obtain ⟨r, hr⟩ : ∃ r, r = fieldF f := ⟨_, rfl⟩
  rw [← hr] at HF
  have HR := Lib.hid hr
  clear hr
  obtain ⟨h, hh⟩ : ∃ h, h = nearF f v := ⟨_, rfl⟩
  rw [← hh]
  have HH := Lib.hid hh
  clear hh
  obtain ⟨g, hg⟩ : ∃ g, g = highF f := ⟨_, rfl⟩
  rw [← hg] at HG
  have HGG := Lib.hid hg
  clear hg
  generalize hfb : f.bits = fb at *
  generalize hfl : f.low = fl at *
  generalize hfn : f.nm = fn at *
  have HFB := Lib.hid hfl
  clear hfb hfl hfn
  go_enter Try.func205, Try.ntmps205
  go_wp2_with fail
  refine (HF.out _).mono ?_
  rintro e w2 ⟨rfl, hb2⟩
  have hk2 := HK1.out.below hb2 (by simp)
  have s0 : w2.drew.cell? ⟨w.heap.size, 0, none⟩ = some (.string fn) ∧ w2.drew.cell? ⟨w.heap.size, 1, none⟩ = some (.int .i64 fb) ∧ w2.drew.cell? ⟨w.heap.size, 2, none⟩ = some (.int .i64 fl) := ⟨hk2.cell 0, hk2.cell 1, hk2.cell 2⟩
  have HB2 := Lib.hid (HB1.out.trans (hb2.mono (by simp)))
  have HK2 := Lib.hid hk2
  clear hk2 hb2
  by_cases h0 : r = 0
  · subst h0
    go_wp2_with fail
    go_region_held3 (fun wx => wx.cell? ⟨w.heap.size, 0, none⟩ = some (.string fn) ∧ wx.cell? ⟨w.heap.size, 1, none⟩ = some (.int .i64 fb) ∧ wx.cell? ⟨w.heap.size, 2, none⟩ = some (.int .i64 fl))
      (first | (with_reducible exact s0) | (with_reducible exact s3) | go_keep)
      (first
        | (go_at_call 240
           (with_reducible refine (HG.out _).mono ?_)
           rintro e w3 ⟨rfl, hb3⟩
           have hk3 := HK2.out.drew.below hb3 HK2.out.lt
           have s3 : w3.cell? ⟨w.heap.size, 0, none⟩ = some (.string fn) ∧ w3.cell? ⟨w.heap.size, 1, none⟩ = some (.int .i64 fb) ∧ w3.cell? ⟨w.heap.size, 2, none⟩ = some (.int .i64 fl) := ⟨hk3.cell 0, hk3.cell 1, hk3.cell 2⟩
           have HB3 := Lib.hid (HB2.out.drew.trans (hb3.mono HB2.out.size))
           clear hk3 hb3))
    go_wp2_with fail
    all_goals
      go_ret
      exact ⟨by rw [HH.out]; unfold nearF; rw [if_pos HR.out.symm, HFB.out, ← HGG.out]; (first | rfl | exact ret_i (by omega)), HB3.out⟩
  · go_wp2_with fail
    go_ret
    exact ⟨by rw [HH.out]; unfold nearF; rw [if_neg (by rw [← HR.out]; exact h0)]; rfl, HB2.out⟩
end Go.Proofs.Ytnidcmhfbkdioaa
