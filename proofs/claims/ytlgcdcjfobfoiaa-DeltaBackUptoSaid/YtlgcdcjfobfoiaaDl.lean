/-
  The contracts of the reference's Bits.Nat and Bits.Int. Conditions: a list of bits that can be read, within the reach.
-/
import Derived.Test.YtlgcdcjfobfoiaaDi
import Derived.Maps.OwnOps
namespace Go.Proofs.Ytlgcdcjfobfoiaa
open Go.RowKit Go.Maps
set_option maxRecDepth 100000

/-- The map literal of one key: what it says of a truth. -/
theorem map_true (w : World) : ∃ w2, (Instr.mapUpdate 151 (.map (some w.heap.size)) (.bool true) (.int .u64 1)).run Try.prog (w.alloc (.map #[] 0)) = .ok () w2 ∧
    (∀ x : Bool, (Instr.lookup 151 (.map (some w.heap.size)) (.bool x) false).run Try.prog w2 = .ok (.int .u64 (if x then 1 else 0)) w2) ∧ Below w.heap.size w w2 := by
  obtain ⟨w2, h1, h2, h3⟩ := (World.ownsMap_made w Try.prog 4 (plainElem (H := Unit) Try.prog 104)).update (bool_keyed Try.underlying4) Try.underlying151 (by unfold maxLen; omega) (keyOf_bool_mk Try.underlying4 true) (plainElem_int (H := Unit) (a := 1) Try.underlying104 (by decide))
  refine ⟨w2, h1, fun x => ?_, ((Below.refl w.heap.size w).alloc (Nat.le_refl _) _).grown h3 (by simp) (fun q hq => by cases hq; exact Nat.le_refl _)⟩
  obtain ⟨c, e1, e2, _⟩ := h2.lookup_int (bool_keyed Try.underlying4) Try.underlying151 Try.underlying104 (by kernel_rfl) (keyOf_bool_mk Try.underlying4 x)
  rw [e1]
  cases x
  · have : (DataW.lit (H := Unit) (.int .u64 0)) = .lit (.int .u64 c) := e2
    cases this; rfl
  · have : (DataW.lit (H := Unit) (.int .u64 1)) = .lit (.int .u64 c) := e2
    cases this; rfl

theorem bitsOf_low (V n : Nat) : bitsOf V n = bitsOf (V % 2 ^ n) n := by
  unfold bitsOf
  refine List.map_congr_left fun j hj => ?_
  rw [Nat.testBit_mod_two_pow]
  simp [List.mem_range.1 hj]
theorem natP_next (v n k V : Nat) (bits : List Bool) (hV : V = v / 16 ^ k) : (bits ++ natP v n k ++ bitsOf V 4) ++ bitsOf (if k + 1 < n then 1 else 0) 1 = bits ++ natP v n (k + 1) := by
  rw [natP_succ, bitsOf_low V 4, hV]
  have : bitsOf (if k + 1 < n then 1 else 0) 1 = [decide (k + 1 < n)] := by
    by_cases h : k + 1 < n <;> simp [h, bitsOf]
  rw [this]; simp [List.append_assoc]
theorem grp_next (v k : Nat) (hk : k < grp v) : (v / 16 ^ k / 16 = 0 ↔ k + 1 = grp v) := by
  rw [Nat.div_div_eq_div_mul, show 16 ^ k * 16 = 16 ^ (k + 1) from (Nat.pow_succ 16 k).symm]
  constructor
  · intro h
    rcases Nat.lt_or_ge (k + 1) (grp v) with h1 | h1
    · have h2 := grp_lo v (by omega)
      have h3 : 16 ^ (k + 1) ≤ 16 ^ (grp v - 1) := Nat.pow_le_pow_right (by omega) (by omega)
      have h4 : 0 < 16 ^ (k + 1) := Nat.pow_pos (by omega)
      have h5 : 1 ≤ v / 16 ^ (k + 1) := by rw [Nat.le_div_iff_mul_le h4]; omega
      omega
    · omega
  · intro h
    rw [h]; exact Nat.div_eq_of_lt (grp_hi v)

set_option maxHeartbeats 1600000 in
theorem natR_any (A : Option Addr) (m c B v : Nat) (bits : List Bool) (w : World) (hm : m = bits.length) (hr : Rd w B 1 A m (boolsV bits)) (hB : B ≤ w.heap.size) (hv : v < 18446744073709551616) (hs : m + 80 ≤ 140737488355328) :
    Calls Try.prog 87 #[.slice A m c, .int .u64 v] w (RetS w 4 1 (m + 5 * grp v) (boolsV (bits ++ natB v))) := by
  have hmm := @run_makeMap Try.prog
  have HM := Lib.hid hm
  have HV := Lib.hid hv
  have HG := Lib.hid (grp_le v hv)
  have hr' := hr.more hB
  clear hm hv hr
  go_enter Try.func87, Try.ntmps87
  go_wp2_with fail
  go_loopw [0, 1] (fun b vv wr => ∃ (k V q : Nat) (A' : Option Addr) (c' : Nat), b = .slice A' q c' ∧ vv = .int .u64 V ∧ Hid (k < grp v ∧ V = v / 16 ^ k ∧ q = m + 5 * k) ∧ V < 18446744073709551616 ∧ Hid (Rd wr wr.heap.size 1 A' q (boolsV (bits ++ natP v (grp v) k))) ∧ Below w.heap.size w wr) (fun _ vv _ => (intOf vv).toNat)
  case atStart => exact ⟨0, v, m, A, c, rfl, rfl, Lib.hid ⟨by have := HG.out; omega, by simp, rfl⟩, HV.out, Lib.hid (by simpa [natP] using hr'), Below.refl _ _⟩
  case round =>
    obtain ⟨k, V, q, A', c', rfl, rfl, HK, hV, HR, hb⟩ := hrel
    have hsz := hb.size
    obtain ⟨hk, hVk, hq⟩ := HK.out
    have hgl := HG.out.2
    have hadd := add_any A' q c' wr.heap.size V 4 (bits ++ natP v (grp v) k) wr (by rw [List.length_append, natP_length, ← HM.out]; exact hq) HR.out (Nat.le_refl _) (by omega) (by omega) (by omega)
    have HADD := Lib.hid hadd
    have hq80 : q + 5 ≤ 140737488355328 := by omega
    clear hadd hr' hk hVk hq hgl
    go_wp2_with fail
    refine HADD.out.mono ?_
    rintro e w1 ⟨A1, c1, rfl, ho1, hb1⟩
    obtain ⟨w2, hup, hlk, hb2⟩ := map_true w1
    have hr2 := own_rd ho1 hb2
    have hl1 := hlk true
    have hl0 := hlk false
    have hbw := hb.trans (hb1.mono hsz)
    have hs1 := hbw.size
    have hbw2 := hbw.trans (hb2.mono hs1)
    have hs2 := hbw2.size
    have hs12 := hb2.size
    by_cases hz : V / 16 = 0
    · have hlast := (grp_next v k HK.out.1).1 (by rw [← HK.out.2.1]; exact hz)
      have hnx := natP_next v (grp v) k V bits HK.out.2.1
      rw [if_neg (by omega)] at hnx
      have hadd2 := add_any A1 (q + 4) c1 w2.heap.size 0 1 (bits ++ natP v (grp v) k ++ bitsOf V 4) w2 (by rw [List.length_append, List.length_append, natP_length, bitsOf_length, ← HM.out, HK.out.2.2]) (hr2.more hs12) (Nat.le_refl _) (by omega) (by omega) (by omega)
      rw [hnx] at hadd2
      have HADD2 := Lib.hid hadd2
      have HNX := Lib.hid hlast
      have hz' : (V : Int) / 16 = 0 := by omega
      clear hadd2 hnx hlast hr2 ho1 hlk hl1 HADD
      go_wp2_with fail
      refine HADD2.out.mono ?_
      rintro e w3 ⟨A3, c3, rfl, ho3, hb3⟩
      go_wp2_with fail
      go_ret
      refine ⟨A3, c3, ?_, ?_, hbw2.trans (hb3.mono hs2)⟩
      · rw [HK.out.2.2, ← HNX.out]; rfl
      · have h := own_mono ho3 hs2
        rw [HK.out.2.2, ← HNX.out] at h
        unfold natB; rw [← HNX.out]; exact h
    · have hmore : k + 1 < grp v := by
        have h1 := HK.out.1
        rcases Nat.lt_or_ge (k + 1) (grp v) with h2 | h2
        · exact h2
        · exact absurd ((grp_next v k h1).2 (by omega)) (by rw [← HK.out.2.1]; exact hz)
      have hnx := natP_next v (grp v) k V bits HK.out.2.1
      rw [if_pos hmore] at hnx
      have hadd2 := add_any A1 (q + 4) c1 w2.heap.size 1 1 (bits ++ natP v (grp v) k ++ bitsOf V 4) w2 (by rw [List.length_append, List.length_append, natP_length, bitsOf_length, ← HM.out, HK.out.2.2]) (hr2.more hs12) (Nat.le_refl _) (by omega) (by omega) (by omega)
      rw [hnx] at hadd2
      have HADD2 := Lib.hid hadd2
      have HNX := Lib.hid hmore
      have hz' : 0 < (V : Int) / 16 := by omega
      clear hadd2 hnx hmore hr2 ho1 hlk hl0 HADD
      go_wp2_with fail
      refine HADD2.out.mono ?_
      rintro e w3 ⟨A3, c3, rfl, ho3, hb3⟩
      go_wp2_with fail
      go_roundw
      case rel => exact ⟨k + 1, V / 16, q + 4 + 1, A3, c3, rfl, by go_num, Lib.hid ⟨HNX.out, by rw [HK.out.2.1, Nat.div_div_eq_div_mul]; rfl, by have := HK.out.2.2; omega⟩, by omega, Lib.hid (Rd.of_own ho3), hbw2.trans (hb3.mono hs2)⟩
      case measure => simp [intOf]; omega

theorem intR_any (A : Option Addr) (m c B : Nat) (x : Int) (bits : List Bool) (w : World) (hm : m = bits.length) (hr : Rd w B 1 A m (boolsV bits)) (hB : B ≤ w.heap.size) (h0 : -9223372036854775808 ≤ x) (h1 : x ≤ 9223372036854775807) (hs : m + 80 ≤ 140737488355328) :
    Calls Try.prog 88 #[.slice A m c, .int .i64 x] w (RetS w 4 1 (m + 5 * grp (zig x)) (boolsV (bits ++ natB (zig x)))) := by
  have hn := natR_any A m c B (zig x) bits w hm hr hB (zig_lt x h0 h1) hs
  have HN := Lib.hid hn
  have HZ : Hid (((zig x : Nat) : Int) = if x < 0 then 2 * (-(x + 1)) + 1 else 2 * x) := Lib.hid (by unfold zig; split <;> omega)
  clear hn hm hr
  by_cases hx : x < 0
  · have hz := HZ.out
    rw [if_pos hx] at hz
    have hn := HN.out
    rw [hz] at hn
    have HN2 := Lib.hid hn
    clear HZ hn HN hz
    go_enter Try.func88, Try.ntmps88
    go_wp2_with fail
    refine HN2.out.mono ?_
    rintro e w1 ⟨A1, c1, rfl, ho1, hb1⟩
    go_wp2_with fail
    go_ret
    exact ⟨A1, c1, rfl, ho1, hb1⟩
  · have hz := HZ.out
    rw [if_neg hx] at hz
    have hn := HN.out
    rw [hz] at hn
    have HN2 := Lib.hid hn
    clear HZ hn HN hz
    go_enter Try.func88, Try.ntmps88
    go_wp2_with fail
    refine HN2.out.mono ?_
    rintro e w1 ⟨A1, c1, rfl, ho1, hb1⟩
    go_wp2_with fail
    go_ret
    exact ⟨A1, c1, rfl, ho1, hb1⟩
end Go.Proofs.Ytlgcdcjfobfoiaa
