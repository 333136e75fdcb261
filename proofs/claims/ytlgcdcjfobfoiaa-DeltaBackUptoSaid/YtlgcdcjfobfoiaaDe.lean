/-
  What a reader's Nat and Int read; their contracts. Conditions: a reader in memory, sizes within the reach.
-/
import Derived.Test.YtlgcdcjfobfoiaaDd
import Derived.Test.YtlgcdcjfobfoiaaRdr
import Derived.Test.YtlgcdcjfobfoiaaPl
namespace Go.Proofs.Ytlgcdcjfobfoiaa
open Go.RowKit
set_option maxRecDepth 100000

/-- Reads a number: its error, its value, where the reader then stands. -/
def rdN (l : List Nat) (p0 : Nat) : Nat → Nat → Nat → Nat → Int × Nat × Nat
  | 0, _, _, _ => (3, 0, p0)
  | f + 1, i, v, p =>
    if 8 * l.length < p + 5 then (14, 0, p0)
    else if i = 16 ∨ (valAt l p 5 = 0 ∧ 0 < i) then (3, 0, p0)
    else if valAt l p 5 < 16 then (0, v + valAt l p 5 % 16 * 16 ^ i, p + 5) else rdN l p0 f (i + 1) (v + valAt l p 5 % 16 * 16 ^ i) (p + 5)
def rdNat (l : List Nat) (p : Nat) : Int × Nat × Nat := rdN l p 17 0 0 p

def RNPost (w : World) (base g : Nat) (l : List Nat) (p : Nat) (e : Ending) (w' : World) : Prop :=
  e = .returned (.tuple #[.int .u64 (rdNat l p).2.1, .int .i64 (rdNat l p).1]) ∧ RdrSt w' base g l (rdNat l p).2.2 ∧ (rdNat l p).2.2 ≤ 8 * l.length ∧ w.grownBy w' (some g) ∧ w'.heap.size = w.heap.size

theorem RdrSt.pos {w : World} {base g p : Nat} {l : List Nat} (h : RdrSt w base g l p) (q : Nat) : RdrSt (w.setCell ⟨g, 1, none⟩ (.int .i64 q)) base g l q := by
  obtain ⟨A, c, h1, h2, h3⟩ := h
  exact ⟨A, c, h1.set_ 1 (.int .i64 q), own_far h2 h1 (by decide) 1 _, by simpa [World.setCell] using h3⟩
theorem beq_nat {a b : Nat} (h : ((a : Int) == (b : Int)) = true) : a = b := by
  have : (a : Int) = (b : Int) := by simpa using h
  omega
theorem rd_or (v gv i : Nat) (hv : v < 16 ^ i) (hi : i < 16) : Go.bits .or .u64 (v : Int) (IntKind.u64.wrap (Go.bits .and .u64 (gv : Int) 15 * 2 ^ (4 * i))) = ((v + gv % 16 * 16 ^ i : Nat) : Int) ∨ ¬ gv < 32 := by
  by_cases hg : gv < 32
  · left
    have hp : 16 ^ i ≤ 16 ^ 15 := Nat.pow_le_pow_right (by omega) (by omega)
    have h15 : (16 : Nat) ^ 15 = 1152921504606846976 := by decide
    have h1 : gv % 16 * 16 ^ i ≤ 15 * 16 ^ i := Nat.mul_le_mul_right _ (by omega)
    rw [show (15 : Int) = ((15 : Nat) : Int) from rfl, bvand _ _ (by omega) (by omega), show gv &&& 15 = gv % 16 from Nat.and_two_pow_sub_one_eq_mod _ 4]
    have e1 : ((gv % 16 : Nat) : Int) * 2 ^ (4 * i) = ((gv % 16 * 16 ^ i : Nat) : Int) := by rw [pow16]; norm_cast
    rw [e1, IntWalk.u64_in _ (by omega), bvor _ _ (by omega) (by omega)]
    congr 1
    rw [Nat.or_comm, Nat.mul_comm, pow16, ← Nat.two_pow_add_eq_or_of_lt (by rw [← pow16]; exact hv), Nat.add_comm]
  · right; exact hg

set_option maxHeartbeats 1600000 in
theorem rnat_any (g base : Nat) (l : List Nat) (p : Nat) (w : World) (hst : RdrSt w base g l p) (hp : p ≤ 8 * l.length) (hs : l.length ≤ 140737488355328) (hb : ∀ b ∈ l, b < 256) :
    Calls Try.prog 100 #[.pointer (some ⟨g, 0, none⟩)] w (RNPost w base g l p) := by
  have hc1 : w.cell? ⟨g, 1, none⟩ = some (.int .i64 p) := by
    obtain ⟨A, c, h1, _⟩ := hst
    exact h1.cell 1
  have HB := Lib.hid hb
  obtain ⟨N8, hN8⟩ : ∃ N8, N8 = 8 * l.length := ⟨_, rfl⟩
  have HN8 := Lib.hid hN8
  rw [← hN8] at hp
  clear hb hN8
  go_enter Try.func100, Try.ntmps100
  go_wp2_with fail
  clear hc1
  go_loopw [5, 6] (fun v i wr => ∃ (k V P : Nat), k ≤ 16 ∧ i = .int .i64 k ∧ v = .int .u64 V ∧ Hid (V < 16 ^ k) ∧ Hid (rdNat l p = rdN l p (17 - k) k V P) ∧ P ≤ N8 ∧ RdrSt wr base g l P ∧ w.grownBy wr (some g) ∧ wr.heap.size = w.heap.size) (fun _ i _ => 17 - (intOf i).toNat)
  case atStart => exact ⟨0, 0, p, by omega, rfl, rfl, Lib.hid (by simp), Lib.hid rfl, hp, hst, World.grownBy.refl _ _, rfl⟩
  case round =>
    obtain ⟨k, V, P, hk, rfl, rfl, HV, HR, hP, hstr, hgr, hzr⟩ := hrel
    have HZ := Lib.hid hzr
    have hget := get_any g base l P 5 wr hstr (by rw [← HN8.out]; exact hP) (by omega) hs HB.out
    have HGET := Lib.hid hget
    have hrd : rdN l p (17 - k) k V P = if 8 * l.length < P + 5 then (14, 0, p) else if k = 16 ∨ (valAt l P 5 = 0 ∧ 0 < k) then (3, 0, p) else if valAt l P 5 < 16 then (0, V + valAt l P 5 % 16 * 16 ^ k, P + 5) else rdN l p (17 - (k + 1)) (k + 1) (V + valAt l P 5 % 16 * 16 ^ k) (P + 5) := by
      rw [show 17 - k = (17 - (k + 1)) + 1 by omega]; rfl
    have HRD := Lib.hid hrd
    have hg32 := valAt_lt l P 5
    clear hget hrd hzr hstr
    go_wp2_with fail
    refine HGET.out.mono ?_
    clear HGET
    rintro e w1 (⟨hfit, rfl, hst1, hgr1, hz1⟩ | ⟨hno, rfl, hst1, hgr1, hz1⟩)
    · have hf1 : w1.frozen? ⟨g, 1, none⟩ = false := by obtain ⟨A, c, h1, _⟩ := hst1; exact h1.frozen 1
      have hc1 : w1.cell? ⟨g, 1, none⟩ = some (.int .i64 ((P : Int) + 5)) := by obtain ⟨A, c, h1, _⟩ := hst1; exact h1.cell 1
      generalize valAt l P 5 = gv at *
      by_cases h16 : ((k : Int) == 16) = true
      · have hres : rdNat l p = (3, 0, p) := by rw [HR.out, HRD.out, if_neg (by omega), if_pos (.inl (beq_nat h16))]
        have HRES := Lib.hid hres
        have hst2 := hst1.pos p
        have hgr2 := Gb.set_ (Gb.trans hgr hgr1) 1 (.int .i64 p)
        have HZ2 := Lib.hid hz1
        clear hres hst1 hgr1 hgr hz1 HRD HR
        go_wp2_with fail
        go_ret2
        refine ⟨by rw [HRES.out]; rfl, by rw [HRES.out]; exact hst2, by rw [HRES.out, ← HN8.out]; exact hp, hgr2, ?_⟩
        have h1 := HZ2.out
        have h2 := HZ.out
        simp [World.setCell]; omega
      · have h16' : ((k : Int) == 16) = false := by simpa using h16
        have hk16 : k < 16 := by
          have : ¬ (k : Int) = 16 := by simpa using h16'
          omega
        clear h16
        by_cases h0 : ((gv : Int) == 0) = true ∧ 0 < k
        · obtain ⟨h01, h02⟩ := h0
          have hres : rdNat l p = (3, 0, p) := by rw [HR.out, HRD.out, if_neg (by omega), if_pos (.inr ⟨beq_nat h01, h02⟩)]
          have HRES := Lib.hid hres
          have hst2 := hst1.pos p
          have hgr2 := Gb.set_ (Gb.trans hgr hgr1) 1 (.int .i64 p)
          have HZ2 := Lib.hid hz1
          clear hres hst1 hgr1 hgr hz1 HRD HR
          go_wp2_with fail
          go_ret2
          refine ⟨by rw [HRES.out]; rfl, by rw [HRES.out]; exact hst2, by rw [HRES.out, ← HN8.out]; exact hp, hgr2, ?_⟩
          have h1 := HZ2.out
          have h2 := HZ.out
          simp [World.setCell]; omega
        · have hns : ¬ (k = 16 ∨ (gv = 0 ∧ 0 < k)) := by
            rintro (h | ⟨h, h'⟩)
            · omega
            · exact h0 ⟨by simp [h], h'⟩
          have hcase : ((gv : Int) == 0) = false ∨ (((gv : Int) == 0) = true ∧ k = 0) := by
            by_cases hg : ((gv : Int) == 0) = true
            · right; exact ⟨hg, (Nat.eq_zero_or_pos k).resolve_right fun h => h0 ⟨hg, h⟩⟩
            · left; simpa using hg
          have hor : Go.bits .or .u64 (V : Int) (IntKind.u64.wrap (Go.bits .and .u64 (gv : Int) 15 * 2 ^ (4 * k))) = ((V + gv % 16 * 16 ^ k : Nat) : Int) := by
            rcases rd_or V gv k HV.out hk16 with h | h
            · exact h
            · omega
          have hgrr := Gb.trans hgr hgr1
          have HZ2 := Lib.hid hz1
          have HNS := Lib.hid hns
          clear hgr hgr1 hz1 hns h0
          by_cases hlast : gv < 16
          · have hres : rdNat l p = (0, V + gv % 16 * 16 ^ k, P + 5) := by rw [HR.out, HRD.out, if_neg (by omega), if_neg HNS.out, if_pos hlast]
            have HRES := Lib.hid hres
            have HOR := Lib.hid hor
            clear hres hor HRD HR
            rcases hcase with hc | ⟨hc, rfl⟩
            all_goals
              go_wp2_with fail
              go_ret2
              refine ⟨by rw [HRES.out]; first | (rw [← HOR.out]; rfl) | (have := HOR.out; simp at this; simp [this]), by rw [HRES.out]; exact hst1, by rw [HRES.out]; exact hfit, hgrr, ?_⟩
              have h1 := HZ2.out
              have h2 := HZ.out
              omega
          · have hres : rdNat l p = rdN l p (17 - (k + 1)) (k + 1) (V + gv % 16 * 16 ^ k) (P + 5) := by rw [HR.out, HRD.out, if_neg (by omega), if_neg HNS.out, if_neg hlast]
            have hV2 : V + gv % 16 * 16 ^ k < 16 ^ (k + 1) := by
              have h1 : gv % 16 * 16 ^ k ≤ 15 * 16 ^ k := Nat.mul_le_mul_right _ (by omega)
              have h2 := HV.out
              rw [Nat.pow_succ]; omega
            have HRES := Lib.hid hres
            have HOR := Lib.hid hor
            have HV2 := Lib.hid hV2
            have h32 : gv < 32 := hg32
            clear hres hor HRD HR hV2
            rcases hcase with hc | ⟨hc, rfl⟩
            · go_wp2_with fail
              go_roundw
              case rel => exact ⟨k + 1, V + gv % 16 * 16 ^ k, P + 5, by omega, by go_num, by rw [← HOR.out], HV2, HRES, by have := HN8.out; omega, hst1, hgrr, by rw [HZ2.out, HZ.out]⟩
              case measure => simp [intOf]; omega
            · exact absurd (beq_nat (b := 0) hc) (by omega)
    · have hres : rdNat l p = (14, 0, p) := by rw [HR.out, HRD.out, if_pos (by omega)]
      have HRES := Lib.hid hres
      have hf1 : w1.frozen? ⟨g, 1, none⟩ = false := by obtain ⟨A, c, h1, _⟩ := hst1; exact h1.frozen 1
      have hc1 : w1.cell? ⟨g, 1, none⟩ = some (.int .i64 P) := by obtain ⟨A, c, h1, _⟩ := hst1; exact h1.cell 1
      have hst2 := hst1.pos p
      have hgr2 := Gb.set_ (Gb.trans hgr hgr1) 1 (.int .i64 p)
      have HZ2 := Lib.hid hz1
      clear hres hno hst1 hgr1 hgr hz1 HRD HR
      go_wp2_with fail
      go_ret2
      refine ⟨by rw [HRES.out]; rfl, by rw [HRES.out]; exact hst2, by rw [HRES.out, ← HN8.out]; exact hp, hgr2, ?_⟩
      have h1 := HZ2.out
      have h2 := HZ.out
      simp [World.setCell]; omega
end Go.Proofs.Ytlgcdcjfobfoiaa
