/-
  The contracts of Nat and Int of a writer. Conditions: a writer in memory, numbers that fit their kinds.
-/
import Derived.Test.YtlgcdcjfobfoiaaDb
namespace Go.Proofs.Ytlgcdcjfobfoiaa
open Go.RowKit
set_option maxRecDepth 100000

theorem bvand (a b : Nat) (ha : a < 18446744073709551616) (hb : b < 18446744073709551616) : Go.bits .and .u64 (a : Int) (b : Int) = ((a &&& b : Nat) : Int) := by
  have hx : a &&& b < 2 ^ 64 := Nat.and_lt_two_pow _ hb
  show IntKind.u64.wrap ((BitVec.ofInt 64 (a : Int) &&& BitVec.ofInt 64 (b : Int)).toNat : Int) = _
  rw [BitVec.toNat_and, BitVec.ofInt_natCast, BitVec.ofInt_natCast, BitVec.toNat_ofNat, BitVec.toNat_ofNat, Nat.mod_eq_of_lt ha, Nat.mod_eq_of_lt hb, IntKind.wrap_u64]
  omega
theorem bvor (a b : Nat) (ha : a < 18446744073709551616) (hb : b < 18446744073709551616) : Go.bits .or .u64 (a : Int) (b : Int) = ((a ||| b : Nat) : Int) := by
  have hx : a ||| b < 2 ^ 64 := Nat.or_lt_two_pow ha hb
  show IntKind.u64.wrap ((BitVec.ofInt 64 (a : Int) ||| BitVec.ofInt 64 (b : Int)).toNat : Int) = _
  rw [BitVec.toNat_or, BitVec.ofInt_natCast, BitVec.ofInt_natCast, BitVec.toNat_ofNat, BitVec.toNat_ofNat, Nat.mod_eq_of_lt ha, Nat.mod_eq_of_lt hb, IntKind.wrap_u64]
  omega
theorem grpval (v k m : Nat) (hv : v < 18446744073709551616) (hm : m ≤ 16) : Go.bits .or .u64 (Go.bits .and .u64 ((v : Int) / 2 ^ (4 * k)) 15) (m : Int) = ((v / 16 ^ k % 16 ||| m : Nat) : Int) := by
  have e1 : (v : Int) / 2 ^ (4 * k) = ((v / 16 ^ k : Nat) : Int) := by
    rw [pow16]; simp
  have hd : v / 16 ^ k ≤ v := Nat.div_le_self _ _
  rw [e1, show (15 : Int) = ((15 : Nat) : Int) from rfl, bvand _ _ (by omega) (by omega), show v / 16 ^ k &&& 15 = v / 16 ^ k % 16 from Nat.and_two_pow_sub_one_eq_mod _ 4, bvor _ _ (by omega) (by omega)]
theorem put_grp (g base v k n : Nat) (b : Bool) (X : Int) (bits : List Bool) (w : World) (hb : b = decide (k + 1 < n)) (hX : X = ((v / 16 ^ k % 16 ||| (if b then 16 else 0) : Nat) : Int)) (hs : bits.length + 5 * (k + 1) ≤ 524288) (hst : WrSt w base g (bits ++ natP v n k)) :
    Calls Try.prog 64 #[.pointer (some ⟨g, 0, none⟩), .int .u64 X, .int .i64 5] w fun e w' => e = .returned (.int .i64 0) ∧ WrSt w' base g (bits ++ natP v n (k + 1)) ∧ Kp base 5 g w w' := by
  have hlt := or_lt32 (v / 16 ^ k % 16) b (Nat.mod_lt _ (by omega))
  subst hX
  have h := put_any g base (v / 16 ^ k % 16 ||| (if b then 16 else 0)) 5 (bits ++ natP v n k) w (by omega) (by omega) (by rw [List.length_append, natP_length]; omega) hst
  rw [bits5 _ b (Nat.mod_lt _ (by omega)), List.append_assoc] at h
  rw [natP_succ, ← hb]
  exact h

set_option maxHeartbeats 800000 in
theorem wnat_ok (g base v : Nat) (bits : List Bool) (w : World) (hv : v < 18446744073709551616) (hs : bits.length + (natB v).length ≤ 524288) (hst : WrSt w base g bits) :
    Calls Try.prog 84 #[.pointer (some ⟨g, 0, none⟩), .int .u64 v] w fun e w' => e = .returned (.int .i64 0) ∧ WrSt w' base g (bits ++ natB v) ∧ Kp base 5 g w w' := by
  have hg := groups_any v w hv
  have HG := Lib.hid hg
  rw [natB_length] at hs
  have hgl := grp_le v hv
  have hc1 : w.cell? ⟨g, 1, none⟩ = some (.int .i64 bits.length) := by
    obtain ⟨bv, hbk, hown, hbase⟩ := hst
    exact hbk.cell 1
  have HB : Hid (natB v = natP v (grp v) (grp v)) := Lib.hid rfl
  have hv' : v ≤ 18446744073709551615 := by omega
  have HV := Lib.hid hv
  obtain ⟨hg0, hg1⟩ := hgl
  clear hg hv
  generalize grp v = n at *
  go_enter Try.func84, Try.ntmps84
  go_wp2_with fail
  refine HG.out.mono ?_
  rintro e w1 ⟨rfl, rfl⟩
  go_wp2_with fail
  clear hc1
  go_loopw [19] (fun i wr => ∃ k : Nat, k ≤ n ∧ i = .int .i64 k ∧ WrSt wr base g (bits ++ natP v n k) ∧ Kp base 5 g w wr) (fun i _ => n - (intOf i).toNat)
  case atStart => exact ⟨0, Nat.zero_le _, rfl, by simpa [natP] using hst, Kp.refl⟩
  case round =>
    obtain ⟨k, hk, rfl, hwr, hkp⟩ := hrel
    by_cases hlt : k < n
    · by_cases hmore : k + 1 < n
      · have hp := put_grp g base v k n true _ bits wr (by simp [hmore]) (grpval v k 16 HV.out (by omega)) (by omega) hwr
        have HP := Lib.hid hp
        clear hp hwr
        go_wp2_with fail
        refine HP.out.mono ?_
        rintro e w2 ⟨rfl, hwr2, hkp2⟩
        have hkk := hkp.trans hkp2
        go_wp2_with fail
        go_roundw
        case rel => exact ⟨k + 1, by omega, by go_num, hwr2, hkk⟩
        case measure => simp [intOf]; omega
      · have hp := put_grp g base v k n false _ bits wr (by simp [hmore]) (grpval v k 0 HV.out (by omega)) (by omega) hwr
        have HP := Lib.hid hp
        clear hp hwr
        go_wp2_with fail
        refine HP.out.mono ?_
        rintro e w2 ⟨rfl, hwr2, hkp2⟩
        have hkk := hkp.trans hkp2
        go_wp2_with fail
        go_roundw
        case rel => exact ⟨k + 1, by omega, by go_num, hwr2, hkk⟩
        case measure => simp [intOf]; omega
    · obtain rfl : k = n := by omega
      go_wp2_with fail
      go_ret
      exact ⟨rfl, by rw [HB.out]; exact hwr, hkp⟩

theorem wnat_full (g base v : Nat) (bits : List Bool) (w : World) (hv : v < 18446744073709551616) (hs : 524288 < bits.length + (natB v).length) (hl : bits.length ≤ 524288) (hst : WrSt w base g bits) :
    Calls Try.prog 84 #[.pointer (some ⟨g, 0, none⟩), .int .u64 v] w fun e w' => e = .returned (.int .i64 6) ∧ w = w' := by
  have hg := groups_any v w hv
  have HG := Lib.hid hg
  rw [natB_length] at hs
  have hgl := grp_le v hv
  have hc1 : w.cell? ⟨g, 1, none⟩ = some (.int .i64 bits.length) := by
    obtain ⟨bv, hbk, hown, hbase⟩ := hst
    exact hbk.cell 1
  obtain ⟨hg0, hg1⟩ := hgl
  clear hg hv hst
  generalize grp v = n at *
  go_enter Try.func84, Try.ntmps84
  go_wp2_with fail
  refine HG.out.mono ?_
  rintro e w1 ⟨rfl, rfl⟩
  go_wp2_with fail
  go_ret
  exact ⟨rfl, rfl⟩

/-- What a writer's Nat or Int does: it writes all or nothing. -/
def WPost (base g : Nat) (bits more : List Bool) (w : World) (e : Ending) (w' : World) : Prop :=
  ∃ (err : Int) (bits' : List Bool), e = .returned (.int .i64 err) ∧ WrSt w' base g bits' ∧ Kp base 5 g w w' ∧ bits'.length ≤ 524288 ∧ ((err = 0 ∧ bits' = bits ++ more) ∨ (err = 6 ∧ bits' = bits ∧ 524288 < bits.length + more.length))
theorem wnat_any (g base v : Nat) (bits : List Bool) (w : World) (hv : v < 18446744073709551616) (hl : bits.length ≤ 524288) (hst : WrSt w base g bits) :
    Calls Try.prog 84 #[.pointer (some ⟨g, 0, none⟩), .int .u64 v] w (WPost base g bits (natB v) w) := by
  rcases Nat.lt_or_ge 524288 (bits.length + (natB v).length) with h | h
  · exact (wnat_full g base v bits w hv h hl hst).mono fun e w' ⟨he, hw⟩ => by subst hw; exact ⟨6, bits, he, hst, Kp.refl, hl, .inr ⟨rfl, rfl, h⟩⟩
  · exact (wnat_ok g base v bits w hv h hst).mono fun e w' ⟨he, hw, hk⟩ => ⟨0, _, he, hw, hk, by rw [List.length_append]; exact h, .inl ⟨rfl, rfl⟩⟩
theorem wint_any (g base : Nat) (x : Int) (bits : List Bool) (w : World) (h0 : -9223372036854775808 ≤ x) (h1 : x ≤ 9223372036854775807) (hl : bits.length ≤ 524288) (hst : WrSt w base g bits) :
    Calls Try.prog 86 #[.pointer (some ⟨g, 0, none⟩), .int .i64 x] w (WPost base g bits (natB (zig x)) w) := by
  have h := wnat_any g base (zig x) bits w (zig_lt x h0 h1) hl hst
  rw [← zig_eq x h0 h1] at h
  have H := Lib.hid h
  clear h hst hl
  go_enter Try.func86, Try.ntmps86
  go_wp2_with fail
  refine H.out.mono ?_
  rintro e w1 ⟨err, bits', rfl, hw⟩
  go_wp2_with fail
  go_ret
  exact ⟨err, bits', rfl, hw⟩
end Go.Proofs.Ytlgcdcjfobfoiaa
