/-
  The contract of the closure in InputUnpacks. Conditions: at most 8 bits, sizes within the reach.
-/
import Derived.Test.YtlgcdcjfobfoiaaUnp
namespace Go.Proofs.Ytlgcdcjfobfoiaa
open Go.RowKit
set_option maxRecDepth 100000

/-- What the closure of the law leaves: 'at' and 'short'. -/
def GetL (w : World) (ab _bb sb : Nat) (v : Int) (p' : Nat) (s' : Bool) (e : Ending) (w' : World) : Prop :=
  e = .returned (.int .i64 v) ∧ Bk w' ab 3 #[.int .i64 p'] ∧ Bk w' sb 4 #[.bool s'] ∧ K2 ab sb w w'

theorem add_round (l : List Nat) (p k x : Nat) (hx : x = l.getD ((p + k) / 8) 0) (hx2 : x < 256) (hk : k < 8) :
    wrap64 ((valAt l p k : Int) + wrap64 (wrap64 (Go.bits .and .u8 ((x : Int) / 2 ^ ((p + k) % 8)) 1) * 2 ^ k)) = ((valAt l p (k + 1) : Nat) : Int) := by
  have h1 : ((x : Int) / 2 ^ ((p + k) % 8)) = ((x / 2 ^ ((p + k) % 8) : Nat) : Int) := by norm_cast
  have h2 : x / 2 ^ ((p + k) % 8) < 256 := Nat.lt_of_le_of_lt (Nat.div_le_self _ _) hx2
  have h3 : Go.bits .and .u8 ((x : Int) / 2 ^ ((p + k) % 8)) 1 = ((bitAt l (p + k)).toNat : Int) := by
    rw [h1, show (1 : Int) = ((1 : Nat) : Int) from rfl, u8_and_nat _ _ h2 (by omega), nat_mask1]
    congr 1
    unfold bitAt
    rw [← hx, Nat.testBit_eq_decide_div_mod_eq]
    rcases Nat.mod_two_eq_zero_or_one (x / 2 ^ ((p + k) % 8)) with h | h <;> simp [h]
  have hbit : (bitAt l (p + k)).toNat ≤ 1 := Bool.toNat_le _
  have hpow : (bitAt l (p + k)).toNat * 2 ^ k ≤ 1 * 2 ^ k := Nat.mul_le_mul_right _ hbit
  have hp63 : 2 ^ k ≤ 2 ^ 7 := Nat.pow_le_pow_right (by omega) (by omega)
  have hv := valAt_lt l p k
  rw [h3, IntWalk.wrap64_in ((bitAt l (p + k)).toNat : Int) (by omega)]
  have e2 : ((bitAt l (p + k)).toNat : Int) * 2 ^ k = (((bitAt l (p + k)).toNat * 2 ^ k : Nat) : Int) := by norm_cast
  rw [e2, IntWalk.wrap64_in (((bitAt l (p + k)).toNat * 2 ^ k : Nat) : Int) (by omega), IntWalk.wrap64_in _ (by omega)]
  simp only [valAt]
  omega

theorem K2.bk1 {g h : Nat} {a b : World} (x : K2 g h a b) {k : Nat} {t : TypeId} {cs : Array Value} (hk : Bk a k t cs) (h1 : k ≠ g) (h2 : k ≠ h) : Bk b k t cs := x.bk hk h1 h2

set_option maxHeartbeats 1600000 in
theorem lget_any (ab bb sb p n : Nat) (s0 : Bool) (A : Option Addr) (c B : Nat) (l : List Nat) (w : World) (hn : n ≤ 8) (hp : p ≤ 8 * l.length) (hs : l.length ≤ 140737488355328) (hb : ∀ b ∈ l, b < 256)
    (ha : Bk w ab 3 #[.int .i64 p]) (hbb : Bk w bb 30 #[.slice A l.length c]) (hsb : Bk w sb 4 #[.bool s0]) (hr : Rd w B 1 A l.length (bytesV l)) (h1 : B ≤ ab) (h2 : B ≤ sb) :
    Calls Try.prog 41 #[.int .i64 n, .pointer (some ⟨ab, 0, none⟩), .pointer (some ⟨bb, 0, none⟩), .pointer (some ⟨sb, 0, none⟩)] w fun e w' =>
      (p + n ≤ 8 * l.length ∧ GetL w ab bb sb (valAt l p n) (p + n) s0 e w') ∨ (¬ p + n ≤ 8 * l.length ∧ GetL w ab bb sb 0 (8 * l.length) true e w') := by
  have HB := Lib.hid hb
  have HR := Lib.hid hr
  have hne1 : bb ≠ ab := Bk.ne_ hbb ha (by decide)
  have hne2 : bb ≠ sb := Bk.ne_ hbb hsb (by decide)
  have hne3 : ab ≠ sb := Bk.ne_ ha hsb (by decide)
  have HS := Lib.hid hsb
  have HBB := Lib.hid hbb
  have HA := Lib.hid ha
  clear hb hr hsb hbb ha
  go_enter Try.func41, Try.ntmps41
  go_wp2_with fail
  go_loopw [6, 9] (fun v i wr => ∃ k : Nat, k ≤ n ∧ v = .int .i64 (valAt l p k) ∧ i = .int .i64 k ∧ p + k ≤ 8 * l.length ∧ Bk wr ab 3 #[.int .i64 ((p : Int) + k)] ∧ Bk wr sb 4 #[.bool s0] ∧ K2 ab sb w wr) (fun _ i _ => n - (intOf i).toNat)
  case atStart => exact ⟨0, Nat.zero_le _, rfl, rfl, hp, by simpa using HA.out, HS.out, K2.refl _ _ _⟩
  case round =>
    obtain ⟨k, hk, rfl, rfl, hpk, ha, hsb, hk2⟩ := hrel
    by_cases hlt : k < n
    · have hbb := hk2.bk HBB.out hne1 hne2
      have c0 : wr.cell? ⟨ab, 0, none⟩ = some (.int .i64 ((p : Int) + k)) := ha.cell 0
      have c1 : wr.cell? ⟨bb, 0, none⟩ = some (.slice A l.length c) := hbb.cell 0
      have f0 := ha.frozen 0
      have f1 := hsb.frozen 0
      have c2 : wr.cell? ⟨sb, 0, none⟩ = some (.bool s0) := hsb.cell 0
      by_cases hfull : p + k = 8 * l.length
      · have HF := Lib.hid hfull
        have t1 : 8 * (l.length : Int) ≤ (p : Int) + k := by omega
        clear hfull
        go_wp2_with fail
        go_ret
        have hf := HF.out
        have ha' : Bk wr ab 3 #[.int .i64 ((8 * l.length : Nat) : Int)] := by rw [← hf]; simpa using ha
        exact .inr ⟨by omega, rfl, ha'.far (p := ⟨sb, 0, none⟩) hne3 _, hsb.set_ 0 _, hk2.set2 0 _⟩
      · have t1 : (p : Int) + k < 8 * (l.length : Int) := by omega
        have hj : (p + k) / 8 < l.length := by omega
        obtain ⟨x, hx⟩ : ∃ x, x = l.getD ((p + k) / 8) 0 := ⟨_, rfl⟩
        obtain ⟨b, o, rfl, hbB, hcell⟩ := HR.out.at1 hj (bytesV_get l _ hj)
        rw [← hx] at hcell
        have q2 : wr.cell? ⟨b, o + (p + k) / 8, none⟩ = some (.int .u8 x) := (World.cell?_of_block (w := w) (a := ⟨b, o + (p + k) / 8, none⟩) (hk2.block b (by omega) (by omega))).trans hcell
        have hx256 : x < 256 := by
          rw [hx, List.getD_eq_getElem?_getD, List.getElem?_eq_getElem hj]
          exact HB.out _ (List.getElem_mem _)
        have HX := Lib.hid hx
        have hb1 : ((p : Int) + k) / 8 < (l.length : Int) := by omega
        have hb2 : (((p : Int) + k) / 8).toNat = (p + k) / 8 := by omega
        have hb0 : 0 ≤ ((p : Int) + k) / 8 := by omega
        have hb3 : (((p : Int) + k) % 8).toNat = (p + k) % 8 := by omega
        clear hx hcell hfull
        go_wp2_with fail
        go_quiet (fail)
        go_wp2_with fail
        go_roundw
        case measure => simp [intOf]; omega
        case rel =>
          refine ⟨k + 1, by omega, ?_, by go_num, by omega, ?_, ?_, ?_⟩
          · exact ret_pt (add_round l p k x HX.out hx256 (by omega))
          · have := ha.set_ 0 (.int .i64 ((p : Int) + k + 1))
            have e1 : ((p : Int) + ((k + 1 : Nat) : Int)) = (p : Int) + k + 1 := by omega
            rw [e1]; exact this
          · exact hsb.far (p := ⟨ab, 0, none⟩) (Ne.symm hne3) _
          · exact (hk2.drewN _).set1 0 _
    · go_wp2
      go_ret
      obtain rfl : k = n := by omega
      exact .inl ⟨hpk, rfl, by simpa using ha, hsb, hk2⟩
end Go.Proofs.Ytlgcdcjfobfoiaa
