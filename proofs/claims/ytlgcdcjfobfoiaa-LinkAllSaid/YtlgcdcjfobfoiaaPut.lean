/-
  The contract of (*bits.Writer).Put: it appends bits to the writer's bytes. Conditions: fewer than 64 bits, a number that fits them, room in the writer.
-/
import Derived.Test.YtlgcdcjfobfoiaaBits
namespace Go.Proofs.Ytlgcdcjfobfoiaa
open Go.RowKit
def bytesV (l : List Nat) : List Value := l.map fun (b : Nat) => Value.int .u8 (b : Int)
theorem bytesV_length (l : List Nat) : (bytesV l).length = l.length := by simp [bytesV]
theorem bytesV_get (l : List Nat) (j : Nat) (h : j < l.length) : (bytesV l)[j]? = some (.int .u8 ((l.getD j 0 : Nat) : Int)) := by
  simp [bytesV, h, List.getD]
theorem bytesV_set (l : List Nat) (j x : Nat) : (bytesV l).set j (.int .u8 (x : Int)) = bytesV (l.set j x) := by simp [bytesV, List.map_set]
theorem bytesV_append (l k : List Nat) : bytesV (l ++ k) = bytesV l ++ bytesV k := by simp [bytesV]
theorem bytesV_one (l : List Nat) : ∀ u ∈ bytesV l, u.oneCell' = true := by
  intro u hu
  simp only [bytesV, List.mem_map] at hu
  obtain ⟨b, _, rfl⟩ := hu
  rfl

/-- A writer at block g: its bytes are those of 'bits'. -/
def WrSt (w : World) (base g : Nat) (bits : List Bool) : Prop :=
  ∃ v, Bk w g 102 #[v, .int .i64 bits.length] ∧ w.ownsRow base 5 1 v (packB bits).length (bytesV (packB bits)) ∧ base ≤ w.heap.size

theorem T.info5 : (Try.prog.info? 5).map (fun i => (i.zero, i.size, i.bytes)) = some (some (.int .u8 0), 1, 1) := by kernel_rfl

theorem and1_u64 (v k : Nat) (hv : v < 18446744073709551616) : Go.bits .and .u64 ((v : Int) / 2 ^ k) 1 = ((v.testBit k).toNat : Int) := by
  have h1 : ((v : Int) / 2 ^ k) = ((v / 2 ^ k : Nat) : Int) := by norm_cast
  have h2 : v / 2 ^ k < 18446744073709551616 := Nat.lt_of_le_of_lt (Nat.div_le_self _ _) hv
  rw [h1, show (1 : Int) = ((1 : Nat) : Int) from rfl, u64_and_nat _ _ h2 (by omega), nat_mask1]
  congr 1
  rw [Nat.testBit_eq_decide_div_mod_eq]
  rcases Nat.mod_two_eq_zero_or_one (v / 2 ^ k) with h | h <;> simp [h]

/-- What the bytes become by one bit more. -/
def grownB (bits : List Bool) : List Nat := if bits.length % 8 = 0 then packB bits ++ [0] else packB bits
theorem grownB_length (bits : List Bool) : (grownB bits).length = bits.length / 8 + 1 := by
  have := packB_length bits
  unfold grownB
  split
  · rw [List.length_append, List.length_singleton]; omega
  · omega
theorem grownB_last (bits : List Bool) : (grownB bits).getD (bits.length / 8) 0 < 2 ^ (bits.length % 8) := by
  have hl := packB_length bits
  unfold grownB
  split
  · rw [List.getD_eq_getElem?_getD, List.getElem?_append_right (by omega), show bits.length / 8 - (packB bits).length = 0 by omega]
    simp; exact Nat.two_pow_pos _
  · exact (packB_lt bits).2 ‹_›
theorem packB_push (bits : List Bool) (x : Bool) :
    packB (bits ++ [x]) = (grownB bits).set (bits.length / 8) ((grownB bits).getD (bits.length / 8) 0 ||| (x.toNat * 2 ^ (bits.length % 8))) := by
  have hl := packB_length bits
  have hlast := grownB_last bits
  have hor : (grownB bits).getD (bits.length / 8) 0 ||| (x.toNat * 2 ^ (bits.length % 8)) = (grownB bits).getD (bits.length / 8) 0 + x.toNat * 2 ^ (bits.length % 8) := by
    rw [Nat.or_comm, Nat.mul_comm, ← Nat.two_pow_add_eq_or_of_lt hlast, Nat.add_comm]
  rw [hor, packB_snoc, pushB]
  unfold grownB
  by_cases h : bits.length % 8 = 0
  · rw [if_pos h, if_pos h]
    have h8 : bits.length / 8 = (packB bits).length := by omega
    rw [h8, h]
    simp [List.getD]
  · rw [if_neg h, if_neg h]

theorem or8 (old x s : Nat) (ho : old < 2 ^ s) (hs : s < 8) (hx : x ≤ 1) : Go.bits .or .u8 (old : Int) ((x : Int) % 256 * 2 ^ s % 256) = ((old ||| (x * 2 ^ s) : Nat) : Int) := by
  have hp : 2 ^ s ≤ 2 ^ 7 := Nat.pow_le_pow_right (by omega) (by omega)
  have h1 : x * 2 ^ s ≤ 1 * 2 ^ s := Nat.mul_le_mul_right _ hx
  have h2 : ((x : Int) % 256 * 2 ^ s % 256) = ((x * 2 ^ s : Nat) : Int) := by
    have e1 : (x : Int) % 256 = x := by omega
    rw [e1]
    have e2 : (x : Int) * 2 ^ s = ((x * 2 ^ s : Nat) : Int) := by norm_cast
    rw [e2]; omega
  rw [h2, u8_or_nat _ _ (by omega) (by omega)]

/-- What a round of Put leaves. -/
theorem put_round {W : World} {base g gb cb nb v k old : Nat} {bits : List Bool} {mI : Int} (hv : v < 18446744073709551616) (hmI : mI = bits.length)
    (hB : Bk W g 102 #[.slice (some ⟨gb, 0, none⟩) nb cb, .int .i64 mI]) (hO : W.ownsRow base 5 1 (.slice (some ⟨gb, 0, none⟩) nb cb) nb (bytesV (grownB bits)))
    (hold : old = (grownB bits).getD (bits.length / 8) 0) (hb : base ≤ W.heap.size) :
    WrSt ((W.setCell ⟨gb, bits.length / 8, none⟩ (.int .u8 (Go.bits .or .u8 (old : Int) (Go.bits .and .u64 ((v : Int) / 2 ^ k) 1 % 256 * 2 ^ (bits.length % 8) % 256)))).setCell ⟨g, 1, none⟩ (.int .i64 (mI + 1))).drew base g (bits ++ [v.testBit k]) := by
  have hne : gb ≠ g := fun e1 => own_ne hO hB (by decide) (by simp [Value.ownBlock, e1])
  have hlen := hO.1
  rw [bytesV_length, grownB_length] at hlen
  have hnb : nb = bits.length / 8 + 1 := by omega
  rw [and1_u64 v k hv, or8 _ _ _ (by rw [hold]; exact grownB_last bits) (by omega) (Bool.toNat_le _)]
  have h1 := (hO.stored (bits.length / 8) (.int .u8 ((old ||| ((v.testBit k).toNat * 2 ^ (bits.length % 8)) : Nat) : Int))).1
  rw [bytesV_set, hold, ← packB_push] at h1
  have hB1 := hB.far (p := ⟨gb, bits.length / 8, none⟩) (Ne.symm hne) (.int .u8 ((old ||| ((v.testBit k).toNat * 2 ^ (bits.length % 8)) : Nat) : Int))
  have hB2 := hB1.set_ 1 (.int .i64 (mI + 1))
  rw [hold] at hB1 hB2
  have h2 := ownsRow_setCell_other h1 (a := ⟨g, 1, none⟩) (own_ne h1 hB1 (by decide)) (.int .i64 (mI + 1))
  rw [hold]
  have hl1 : (packB (bits ++ [v.testBit k])).length = nb := by rw [packB_length, List.length_append, List.length_singleton]; omega
  refine ⟨_, ?_, by rw [hl1]; exact h2, by show base ≤ (World.setCell _ _ _).heap.size; simpa [World.setCell] using hb⟩
  rw [List.length_append, List.length_singleton]
  have e1 : (((bits.length + 1 : Nat)) : Int) = mI + 1 := by omega
  rw [e1]
  exact hB2
set_option maxRecDepth 100000 in
set_option maxHeartbeats 1600000 in
theorem put_any (g base v n : Nat) (bits : List Bool) (w : World) (hv : v < 2 ^ n) (hn : n < 64) (hs : bits.length + n ≤ 524288) (hst : WrSt w base g bits) :
    Calls Try.prog 64 #[.pointer (some ⟨g, 0, none⟩), .int .u64 v, .int .i64 n] w fun e w' => e = .returned (.int .i64 0) ∧ WrSt w' base g (bits ++ bitsOf v n) ∧ Kp base 5 g w w' := by
  obtain ⟨i0, hi0, hz0, hz1, hz2⟩ := info_parts T.info5
  have c1 : w.cell? ⟨g, 1, none⟩ = some (.int .i64 bits.length) := by
    obtain ⟨bv, hbk, hown, hbase⟩ := hst
    exact hbk.cell 1
  have h3 : ((v : Int) / 2 ^ n != 0) = false := by
    have : v / 2 ^ n = 0 := Nat.div_eq_of_lt hv
    simp; exact_mod_cast this
  have h1 : (0:Int) ≤ (n : Int) := by omega
  have h2 : (n : Int) < 64 := by omega
  have HV := Lib.hid (Nat.lt_of_lt_of_le hv (Nat.pow_le_pow_right (by omega) (Nat.le_of_lt hn)) : v < 2 ^ 64)
  clear hv
  go_enter Try.func64, Try.ntmps64
  go_wp2_with fail
  clear h3 c1
  go_loopw [32] (fun i wr => ∃ k : Nat, k ≤ n ∧ i = .int .i64 k ∧ WrSt wr base g (bits ++ bitsOf v k) ∧ Kp base 5 g w wr) (fun i _ => n - (intOf i).toNat)
  case atStart => exact ⟨0, Nat.zero_le _, rfl, by simpa [bitsOf] using hst, Kp.refl⟩
  case round =>
    obtain ⟨k, hk, rfl, ⟨bv, hbk, hown, hbase⟩, hkp⟩ := hrel
    by_cases hlt : k < n
    · have hm : (bits ++ bitsOf v k).length = bits.length + k := by simp [bitsOf]
      have hnb := packB_length (bits ++ bitsOf v k)
      have hmm : bits.length + k < 524288 := by omega
      rw [hm] at hnb
      have HM := Lib.hid hm
      have HS := Lib.hid (bitsOf_succ v k)
      rw [hm] at hbk
      clear hm
      have c0 : wr.cell? ⟨g, 0, none⟩ = some bv := hbk.cell 0
      have c1 : wr.cell? ⟨g, 1, none⟩ = some (.int .i64 ((bits.length : Int) + k)) := (hbk.cell 1).trans (by simp)
      by_cases h8 : (bits.length + k) % 8 = 0
      · have t8 : (((bits.length : Int) + k) % 8 == 0) = true := by simp; omega
        have H8 := Lib.hid h8
        have HN := Lib.hid hnb
        have hnbb : (packB (bits ++ bitsOf v k)).length ≤ 65536 := by omega
        have hb1 : ((bits.length : Int) + k) / 8 < ((packB (bits ++ bitsOf v k)).length : Int) + 1 := by omega
        have hb2 : (((bits.length : Int) + k) / 8).toNat = (bits.length + k) / 8 := by omega
        have hb0 : 0 ≤ ((bits.length : Int) + k) / 8 := by omega
        clear h8 hnb
        go_wp2_with (first
          | (at_builtin
             go_must (refine wpList_append_one _ rfl (.tmp 45) (.tmp 46) _ rfl base 5 i0 (.int .u8 0) 1 1 Try.underlying30 hi0 hz0 hz1 hz2 rfl (by decide) bv _ _ rfl (hown.alloc _) wr.heap.size 1 5 #[.int .u8 0] rfl (Bk.new _ _ _) rfl ?c1 _ rfl ?c2 ?c3 ?c4 ?_)
             case c1 => simp [Value.oneCell']
             case c2 => unfold maxLen; omega
             case c3 => omega
             case c4 => simp; omega
             intro gb cb w1 hown1 hg1 hat1
             have hbk1 := (hbk.alloc (.cells #[.int .u8 0] 5)).grown hg1 (fun e1 => own_ne (hown.alloc _) (hbk.alloc (.cells #[.int .u8 0] 5)) (by decide) e1.symm)
             have c0' : w1.cell? ⟨g, 0, none⟩ = some bv := hbk1.cell 0
             have f0' := hbk1.frozen 0))
        have hB := hbk1.set_ 0 (Value.slice (some { block := gb, off := 0 }) ((packB (bits ++ bitsOf v k)).length + 1) cb)
        have hO := ownsRow_setCell_other hown1 (a := ⟨g, 0, none⟩) (own_ne hown1 hbk1 (by decide)) (Value.slice (some { block := gb, off := 0 }) ((packB (bits ++ bitsOf v k)).length + 1) cb)
        have hK := ((hkp.alloc (.cells #[.int .u8 0] 5)).grown (hown.alloc _) hg1).setG 0 (Value.slice (some { block := gb, off := 0 }) ((packB (bits ++ bitsOf v k)).length + 1) cb)
        have hBs : base ≤ w1.heap.size := by have := hg1.size; simp at this; omega
        clear hown1 hg1 hbk1 c0' f0' hat1 c0 c1 hkp hown hbk t8
        generalize hW : w1.setCell { block := g, off := 0 } (Value.slice (some { block := gb, off := 0 }) ((packB (bits ++ bitsOf v k)).length + 1) cb) = W at *
        have hBs' : base ≤ W.heap.size := by rw [← hW]; simpa [World.setCell] using hBs
        clear hW hBs
        have hG : bytesV (packB (bits ++ bitsOf v k)) ++ [Value.int IntKind.u8 0] = bytesV (grownB (bits ++ bitsOf v k)) := by
          unfold grownB
          rw [HM.out, if_pos H8.out, bytesV_append]; rfl
        have hO' : W.ownsRow base 5 1 (Value.slice (some { block := gb, off := 0 }) ((packB (bits ++ bitsOf v k)).length + 1) cb) ((packB (bits ++ bitsOf v k)).length + 1) (bytesV (grownB (bits ++ bitsOf v k))) := by rw [← hG]; exact hO
        clear hG hO
        have q0 : W.cell? ⟨g, 0, none⟩ = some (Value.slice (some { block := gb, off := 0 }) ((packB (bits ++ bitsOf v k)).length + 1) cb) := hB.cell 0
        have q1 : W.cell? ⟨g, 1, none⟩ = some (.int .i64 ((bits.length : Int) + k)) := (hB.cell 1).trans (by simp)
        obtain ⟨old, hold⟩ : ∃ o, o = (grownB (bits ++ bitsOf v k)).getD ((bits.length + k) / 8) 0 := ⟨_, rfl⟩
        have q2 : W.cell? ⟨gb, (bits.length + k) / 8, none⟩ = some (.int .u8 old) := by
          have hgl := grownB_length (bits ++ bitsOf v k)
          rw [HM.out] at hgl
          rw [hO'.cellAt _ (by have := HN.out; have := H8.out; omega), bytesV_get _ _ (by omega), hold]
        have p0 := hB.frozen 0
        have p1 := hB.frozen 1
        have p2 := hO'.frozenAt ((bits.length + k) / 8)
        have hne1 : g ≠ gb := Ne.symm (fun e1 => own_ne hO' hB (by decide) (by simp [Value.ownBlock, e1]))
        have hne2 : gb ≠ g := Ne.symm hne1
        have HO := Lib.hid hold
        clear hold
        go_region
        go_wp2
        go_round
        case measure => simp [intOf]; omega
        case rel =>
          refine ⟨k + 1, by omega, by go_num, ?_, ?_⟩
          · rw [HS.out, ← List.append_assoc]
            have := put_round (k := k) (old := old) (mI := (bits.length : Int) + k) HV.out (by rw [HM.out]; simp) (by exact_mod_cast hB) hO' (by rw [HM.out]; exact HO.out) hBs'
            rw [HM.out] at this
            exact this
          · exact ((hK.setOwn hO' _ _).setG 1 _).drew
      · have t8 : (((bits.length : Int) + k) % 8 == 0) = false := by simp; omega
        have H8 := Lib.hid h8
        have HN := Lib.hid hnb
        have hnbb : (packB (bits ++ bitsOf v k)).length ≤ 65536 := by omega
        have hb1 : ((bits.length : Int) + k) / 8 < ((packB (bits ++ bitsOf v k)).length : Int) := by omega
        have hb2 : (((bits.length : Int) + k) / 8).toNat = (bits.length + k) / 8 := by omega
        have hb0 : 0 ≤ ((bits.length : Int) + k) / 8 := by omega
        obtain ⟨gb, cb, hbv, _, _⟩ := hown.form (by omega)
        subst hbv
        clear h8 hnb
        have hG : packB (bits ++ bitsOf v k) = grownB (bits ++ bitsOf v k) := by
          unfold grownB
          rw [HM.out, if_neg H8.out]
        have hO' : wr.ownsRow base 5 1 (Value.slice (some { block := gb, off := 0 }) (packB (bits ++ bitsOf v k)).length cb) (packB (bits ++ bitsOf v k)).length (bytesV (grownB (bits ++ bitsOf v k))) := by rw [← hG]; exact hown
        clear hG hown
        obtain ⟨old, hold⟩ : ∃ o, o = (grownB (bits ++ bitsOf v k)).getD ((bits.length + k) / 8) 0 := ⟨_, rfl⟩
        have q2 : wr.cell? ⟨gb, (bits.length + k) / 8, none⟩ = some (.int .u8 old) := by
          have hgl := grownB_length (bits ++ bitsOf v k)
          rw [HM.out] at hgl
          rw [hO'.cellAt _ (by have := HN.out; have := H8.out; omega), bytesV_get _ _ (by omega), hold]
        have p0 := hbk.frozen 0
        have p1 := hbk.frozen 1
        have p2 := hO'.frozenAt ((bits.length + k) / 8)
        have hne1 : g ≠ gb := Ne.symm (fun e1 => own_ne hO' hbk (by decide) (by simp [Value.ownBlock, e1]))
        have hne2 : gb ≠ g := Ne.symm hne1
        have HO := Lib.hid hold
        clear hold
        go_wp2_with fail
        go_region
        go_wp2
        go_round
        case measure => simp [intOf]; omega
        case rel =>
          refine ⟨k + 1, by omega, by go_num, ?_, ?_⟩
          · rw [HS.out, ← List.append_assoc]
            have := put_round (k := k) (old := old) (mI := (bits.length : Int) + k) HV.out (by rw [HM.out]; simp) (by exact_mod_cast hbk) hO' (by rw [HM.out]; exact HO.out) hbase
            rw [HM.out] at this
            exact this
          · exact ((hkp.setOwn hO' _ _).setG 1 _).drew
    · go_wp2
      go_ret
      obtain rfl : k = n := by omega
      exact ⟨rfl, ⟨bv, hbk, hown, hbase⟩, hkp⟩
end Go.Proofs.Ytlgcdcjfobfoiaa
