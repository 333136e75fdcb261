/-
  The bits of the reference, and tourref4.Difference. Conditions: lists of at most 1048576 numbers.
-/
import Derived.Test.YtnidcmhfbkdioaaUe
import Derived.Maps.OwnOps
import Derived.Maps.Keyed
namespace Go.Proofs.Ytnidcmhfbkdioaa
open Go.RowKit Go.Maps
set_option maxRecDepth 100000
def boolsV (l : List Bool) : List Value := l.map Value.bool
theorem boolsV_length (l : List Bool) : (boolsV l).length = l.length := by simp [boolsV]
theorem boolsV_append (l k : List Bool) : boolsV (l ++ k) = boolsV l ++ boolsV k := by simp [boolsV]
theorem boolsV_one (l : List Bool) : ∀ u ∈ boolsV l, u.oneCell' = true := by
  intro u hu
  simp only [boolsV, List.mem_map] at hu
  obtain ⟨b, _, rfl⟩ := hu
  rfl
theorem boolsV_get (l : List Bool) (j : Nat) (h : j < l.length) : (boolsV l)[j]? = some (.bool (l.getD j false)) := by
  simp [boolsV, h, List.getD]
theorem own_rd {w w' : World} {base : Nat} {e : TypeId} {size n c : Nat} {A : Option Addr} {xs : List Value} (h : w.ownsRow base e size (.slice A n c) n xs) (hb : Below w.heap.size w w') : Rd w' w.heap.size size A n xs :=
  (Rd.of_own h).below hb
theorem T.info4 : (Try.prog.info? 4).map (fun i => (i.zero, i.size, i.bytes)) = some (some (.bool false), 1, 1) := by kernel_rfl
set_option maxHeartbeats 800000 in
theorem cloneBits_any (A : Option Addr) (n c B : Nat) (xs : List Value) (w : World) (hr : Rd w B 1 A n xs) (h1 : ∀ u ∈ xs, u.oneCell' = true) (hB : B ≤ w.heap.size) (hs : n ≤ 140737488355328) :
    Calls Try.prog 186 #[.slice A n c] w (RetS w 4 1 n xs) := by
  obtain ⟨i0, hi0, hz0, hz1, hz2⟩ := info_parts T.info4
  have hn := fun wx => Lib.run_eql_slice_nil (P := Try.prog) wx 217 4 A n c 0 0 Try.underlying217
  cases A with
  | none =>
    obtain rfl : n = 0 := by
      rcases Nat.eq_zero_or_pos n with h | h
      · exact h
      · obtain ⟨_, _, h, _⟩ := hr.2 h; cases h
    obtain rfl : xs = [] := List.eq_nil_of_length_eq_zero (by simpa using hr.1)
    go_enter Try.func186, Try.ntmps186
    go_wp2_with fail
    go_ret
    exact ⟨none, 0, by simp, World.ownsRow_nil _ _ _ _, Below.refl _ _⟩
  | some a =>
    go_enter Try.func186, Try.ntmps186
    go_wp2_with (at_builtin
                 go_must (refine wpList_append_rd _ rfl (.tmp 5) (.tmp 6) _ rfl w.heap.size 4 i0 (.bool false) 1 1 Try.underlying217 hi0 hz0 hz1 hz2 rfl (by decide) (.slice (some ⟨w.heap.size, 0, none⟩) 0 0) 0 [] rfl (World.ownsRow_lit w #[] 0 (Nat.le_refl _) (by decide) rfl) B (some a) n c xs rfl (hr.below ((Below.refl B w).alloc hB _)) h1 ?c2 ?c3 ?c4 ?_)
                 case c2 => unfold maxLen; omega
                 case c3 => omega
                 case c4 => simp
                 intro A' c' w1 hown1 hg1 hat1)
    go_ret
    simp only [Nat.zero_add, List.nil_append] at hown1
    exact ⟨A', c', by simp, hown1, ((Below.refl _ _).alloc (Nat.le_refl _) _).grown hg1 (by simp) (by simp [Value.ownBlock])⟩

/-- A bit, as the walk writes it. -/
theorem bit_eq (v k : Nat) (hv : v < 18446744073709551616) : (Go.bits .and .u64 ((v : Int) / 2 ^ k) 1 == 1) = v.testBit k := by
  rw [and1_u64 v k hv]
  cases v.testBit k <;> rfl

set_option maxHeartbeats 800000 in
theorem add_any (A : Option Addr) (m c B v n : Nat) (bits : List Bool) (w : World) (hm : m = bits.length) (hr : Rd w B 1 A m (boolsV bits)) (hB : B ≤ w.heap.size) (hv : v < 2 ^ 64) (hn : n ≤ 64) (hs : m + n ≤ 140737488355328) :
    Calls Try.prog 120 #[.slice A m c, .int .u64 v, .int .i64 n] w (RetS w 4 1 (m + n) (boolsV (bits ++ bitsOf v n))) := by
  obtain ⟨i0, hi0, hz0, hz1, hz2⟩ := info_parts T.info4
  have hc := cloneBits_any A m c B (boolsV bits) w hr (boolsV_one _) hB (by omega)
  have HC := Lib.hid hc
  have HV := Lib.hid hv
  have HM := Lib.hid hm
  clear hc hv hm hr
  go_enter Try.func120, Try.ntmps120
  go_wp2_with fail
  refine HC.out.mono ?_
  rintro e w1 ⟨A1, c1, rfl, hown1, hb1⟩
  go_wp2_with fail
  go_loopw [7, 12] (fun o i wr => ∃ (k : Nat) (A2 : Option Addr) (c2 : Nat), k ≤ n ∧ i = .int .i64 k ∧ o = .slice A2 (m + k) c2 ∧ wr.ownsRow w.heap.size 4 1 (.slice A2 (m + k) c2) (m + k) (boolsV (bits ++ bitsOf v k)) ∧ Below w.heap.size w wr) (fun _ i _ => n - (intOf i).toNat)
  case atStart => exact ⟨0, A1, c1, Nat.zero_le _, rfl, rfl, by simpa [bitsOf] using hown1, hb1⟩
  case round =>
    obtain ⟨k, A2, c2, hk, rfl, rfl, hown, hb⟩ := hrel
    have hsz := hb.size
    by_cases hlt : k < n
    · have hbit := bit_eq v k HV.out
      have HS := Lib.hid (bitsOf_succ v k)
      have hk64 : (k : Int) < 64 := by omega
      go_wp2_with (at_builtin
                   go_must (refine wpList_append_one _ rfl (.tmp 15) (.tmp 21) _ rfl w.heap.size 4 i0 (.bool false) 1 1 Try.underlying217 hi0 hz0 hz1 hz2 rfl (by decide) _ _ _ rfl (hown.alloc _) wr.heap.size 1 4 #[.bool (v.testBit k)] rfl (Bk.new _ _ _) rfl ?c1 (m + (k + 1)) ?c5 ?c2 ?c3 ?c4 ?_)
                   case c1 => simp [Value.oneCell']
                   case c2 => unfold maxLen; omega
                   case c3 => omega
                   case c4 => simp; omega
                   case c5 => omega
                   intro g3 c3 w3 hown3 hg3 hat3)
      go_roundw
      case measure => simp [intOf]; omega
      case rel =>
        refine ⟨k + 1, _, c3, by omega, by go_num, rfl, ?_, (hb.alloc hsz _).grown hg3 (by simp; omega) (fun q hq => (hown.lt q hq).1)⟩
        rw [HS.out, ← List.append_assoc, boolsV_append]
        exact hown3
    · go_wp2
      go_ret
      obtain rfl : k = n := by omega
      exact ⟨A2, c2, by simp, hown, hb⟩


theorem grownB_of {l : List Bool} (L : List Nat) (h : L = packB l) : grownB l = if l.length % 8 = 0 then L ++ [0] else L := by rw [h]; rfl
theorem packB_push' (l : List Bool) (x : Bool) : packB (l ++ [x]) = if x then (grownB l).set (l.length / 8) ((grownB l).getD (l.length / 8) 0 + 2 ^ (l.length % 8)) else grownB l := by
  have h := packB_snoc l x
  have hl := packB_length l
  rw [h, pushB]
  unfold grownB
  by_cases h8 : l.length % 8 = 0
  · rw [if_pos h8, if_pos h8]
    have e : l.length / 8 = (packB l).length := by omega
    rw [e, h8]
    cases x <;> simp [List.getD]
  · rw [if_neg h8, if_neg h8]
    cases x
    · simp
      rw [List.getElem?_eq_getElem (by omega)]
      simp
    · simp

theorem shl1 (k : Nat) (h : k < 8) (old : Nat) (ho : old < 2 ^ k) : ((old : Int) + 2 ^ k % 256) % 256 = ((old + 2 ^ k : Nat) : Int) := by
  have hp : 2 ^ k ≤ 2 ^ 7 := Nat.pow_le_pow_right (by omega) (by omega)
  have e : (2 : Int) ^ k = ((2 ^ k : Nat) : Int) := by norm_cast
  rw [e]; omega

theorem bytes_store {W : World} {base g n c j s old : Nat} {G : List Nat} (ho : W.ownsRow base 5 1 (.slice (some ⟨g, 0, none⟩) n c) n (bytesV G)) (hold : old = G.getD j 0) (hlt : G.getD j 0 < 2 ^ s) (hs : s < 8) (hn : n = G.length) :
    (W.setCell ⟨g, j, none⟩ (.int .u8 (((old : Int) + 2 ^ s) % 256))).drew.ownsRow base 5 1 (.slice (some ⟨g, 0, none⟩) (G.set j (G.getD j 0 + 2 ^ s)).length c) (G.set j (G.getD j 0 + 2 ^ s)).length (bytesV (G.set j (G.getD j 0 + 2 ^ s))) := by
  have e : (((old : Int) + 2 ^ s) % 256) = ((G.getD j 0 + 2 ^ s : Nat) : Int) := by
    have hp : 2 ^ s ≤ 2 ^ 7 := Nat.pow_le_pow_right (by omega) (by omega)
    have e : (2 : Int) ^ s = ((2 ^ s : Nat) : Int) := by norm_cast
    rw [e]; omega
  rw [e, List.length_set, ← hn]
  have := (ho.stored j (.int .u8 ((G.getD j 0 + 2 ^ s : Nat) : Int))).1
  rw [bytesV_set] at this
  exact this

set_option maxHeartbeats 1600000 in
theorem bytes_any (A : Option Addr) (m c B : Nat) (bits : List Bool) (w : World) (hm : m = bits.length) (hr : Rd w B 1 A m (boolsV bits)) (hB : B ≤ w.heap.size) (hs : m ≤ 140737488355328) :
    Calls Try.prog 123 #[.slice A m c] w (RetS w 5 1 (packB bits).length (bytesV (packB bits))) := by
  obtain ⟨i0, hi0, hz0, hz1, hz2⟩ := info_parts T.info5
  have HM := Lib.hid hm
  have HR := Lib.hid hr
  clear hm hr
  go_enter Try.func123, Try.ntmps123
  go_wp2_with fail
  go_loopw [3, 8] (fun o i wr => ∃ (k : Nat) (L : List Nat) (A2 : Option Addr) (c2 : Nat), k ≤ m ∧ i = .int .i64 k ∧ L = packB (bits.take k) ∧ o = .slice A2 L.length c2 ∧ wr.ownsRow w.heap.size 5 1 (.slice A2 L.length c2) L.length (bytesV L) ∧ Below w.heap.size w wr) (fun _ i _ => m - (intOf i).toNat)
  case atStart => exact ⟨0, [], none, 0, Nat.zero_le _, rfl, rfl, rfl, World.ownsRow_nil _ _ _ _, Below.refl _ _⟩
  case round =>
    obtain ⟨k, L, A2, c2, hk, rfl, hL, rfl, hown, hb⟩ := hrel
    have hsz := hb.size
    by_cases hlt : k < m
    · have hml := HM.out
      have hbk : bits[k]? = some (bits[k]'(by omega)) := List.getElem?_eq_getElem (by omega)
      generalize bits[k]'(by omega) = x at hbk
      obtain ⟨b, o, rfl, hbB, hcell⟩ := HR.out.at1 (u := .bool x) hlt (by simp [boolsV, hbk])
      have c0 : wr.cell? ⟨b, o + k, none⟩ = some (.bool x) := (hb.cell (p := ⟨b, o + k, none⟩) (by show b < w.heap.size; omega)).trans hcell
      have htk : bits.take (k + 1) = bits.take k ++ [x] := by rw [List.take_add_one, hbk]; rfl
      have htl : (bits.take k).length = k := by rw [List.length_take]; omega
      have hpl : L.length = (k + 7) / 8 := by rw [hL, packB_length, htl]
      have hgb := grownB_of L hL
      have hpush := packB_push' (bits.take k) x
      rw [← htk, htl] at hpush
      have hgl := grownB_length (bits.take k)
      have hglast := grownB_last (bits.take k)
      rw [htl] at hgb hgl hglast
      generalize grownB (bits.take k) = G at *
      have HG := Lib.hid hgb
      have HP := Lib.hid hpush
      have HGL := Lib.hid hgl
      have HGT := Lib.hid hglast
      clear hcell hbk htk htl hml hgb hpush hgl hglast hL
      by_cases h8 : k % 8 = 0
      · have t8 : ((k : Int) % 8 == 0) = true := by simp; omega
        have hb1 : (k : Int) / 8 < (L.length : Int) + 1 := by omega
        have hb2 : ((k : Int) / 8).toNat = k / 8 := by omega
        have hb0 : 0 ≤ (k : Int) / 8 := by omega
        have hbd : L.length ≤ 140737488355327 := by omega
        have hG : G = L ++ [0] := by rw [HG.out, if_pos h8]
        have H8 := Lib.hid h8
        have HPL := Lib.hid hpl
        subst hG
        clear h8 hpl
        cases x with
        | true =>
          go_wp2_with
            (at_builtin
             go_must (refine wpList_append_one _ rfl (.tmp 16) (.tmp 17) _ rfl w.heap.size 5 i0 (.int .u8 0) 1 1 Try.underlying81 hi0 hz0 hz1 hz2 rfl (by decide) _ _ _ rfl (hown.alloc _) wr.heap.size 1 5 #[.int .u8 0] rfl (Bk.new _ _ _) rfl ?c1 _ rfl ?c2 ?c3 ?c4 ?_)
             case c1 => simp [Value.oneCell']
             case c2 => unfold maxLen; omega
             case c3 => omega
             case c4 => simp; omega
             intro g3 c3 w3 hown3 hg3 hat3)
          have hown4 : w3.ownsRow w.heap.size 5 1 (.slice (some ⟨g3, 0, none⟩) (L.length + 1) c3) (L.length + 1) (bytesV (L ++ [0])) := by rw [bytesV_append]; exact hown3
          have hb3 := (hb.alloc hsz _).grown hg3 (by simp; omega) (fun q hq => (hown.lt q hq).1)
          obtain ⟨old, hold⟩ : ∃ old, old = (L ++ [0]).getD (k / 8) 0 := ⟨_, rfl⟩
          have q2 : w3.cell? ⟨g3, k / 8, none⟩ = some (.int .u8 old) := by
            rw [hown4.cellAt _ (by have := HGL.out; simp at this; omega), bytesV_get _ _ (by have := HGL.out; omega), hold]
          have q3 := hown4.frozenAt (k / 8)
          have HO := Lib.hid hold
          clear hown3 hg3 hat3 hown hold
          go_region
          go_wp2
          go_roundw
          case measure => simp [intOf]; omega
          case rel =>
            refine ⟨k + 1, (L ++ [0]).set (k / 8) ((L ++ [0]).getD (k / 8) 0 + 2 ^ (k % 8)), some ⟨g3, 0, none⟩, c3, by omega, by go_num, by rw [HP.out]; rfl, by simp, ?_, ?_⟩
            · exact bytes_store hown4 HO.out HGT.out (by omega) (by simp)
            · exact (hb3.setCell (hown4.lt g3 rfl).1 _).drew
        | false =>
          go_wp2_with
            (at_builtin
             go_must (refine wpList_append_one _ rfl (.tmp 16) (.tmp 17) _ rfl w.heap.size 5 i0 (.int .u8 0) 1 1 Try.underlying81 hi0 hz0 hz1 hz2 rfl (by decide) _ _ _ rfl (hown.alloc _) wr.heap.size 1 5 #[.int .u8 0] rfl (Bk.new _ _ _) rfl ?c1 _ rfl ?c2 ?c3 ?c4 ?_)
             case c1 => simp [Value.oneCell']
             case c2 => unfold maxLen; omega
             case c3 => omega
             case c4 => simp; omega
             intro g3 c3 w3 hown3 hg3 hat3)
          go_roundw
          case measure => simp [intOf]; omega
          case rel =>
            refine ⟨k + 1, L ++ [0], some ⟨g3, 0, none⟩, c3, by omega, by go_num, by rw [HP.out]; rfl, by simp, ?_, (hb.alloc hsz _).grown hg3 (by simp; omega) (fun q hq => (hown.lt q hq).1)⟩
            rw [bytesV_append, List.length_append]; exact hown3
      · have t8 : ((k : Int) % 8 == 0) = false := by simp; omega
        have hb1 : (k : Int) / 8 < (L.length : Int) := by omega
        have hb2 : ((k : Int) / 8).toNat = k / 8 := by omega
        have hb0 : 0 ≤ (k : Int) / 8 := by omega
        have hG : G = L := by rw [HG.out, if_neg h8]
        subst hG
        obtain ⟨g3, c3, hv, _, _⟩ := hown.form (by omega)
        have hA : A2 = some ⟨g3, 0, none⟩ := by injection hv
        subst hA
        have H8 := Lib.hid h8
        have HPL := Lib.hid hpl
        clear h8 hpl hv
        cases x with
        | true =>
          obtain ⟨old, hold⟩ : ∃ old, old = G.getD (k / 8) 0 := ⟨_, rfl⟩
          have q2 : wr.cell? ⟨g3, k / 8, none⟩ = some (.int .u8 old) := by
            rw [hown.cellAt _ (by have := HGL.out; omega), bytesV_get _ _ (by have := HGL.out; omega), hold]
          have q3 := hown.frozenAt (k / 8)
          have HO := Lib.hid hold
          clear hold
          go_wp2_with fail
          go_region
          go_wp2
          go_roundw
          case measure => simp [intOf]; omega
          case rel =>
            refine ⟨k + 1, G.set (k / 8) (G.getD (k / 8) 0 + 2 ^ (k % 8)), some ⟨g3, 0, none⟩, c2, by omega, by go_num, by rw [HP.out]; rfl, by simp, ?_, ?_⟩
            · exact bytes_store hown HO.out HGT.out (by omega) rfl
            · exact (hb.setCell (hown.lt g3 rfl).1 _).drew
        | false =>
          go_wp2_with fail
          go_roundw
          case measure => simp [intOf]; omega
          case rel =>
            exact ⟨k + 1, G, some ⟨g3, 0, none⟩, c2, by omega, by go_num, by rw [HP.out]; rfl, rfl, hown, hb⟩
    · go_wp2
      go_ret
      obtain rfl : k = m := by omega
      have hml := HM.out
      rw [List.take_of_length_le (by omega)] at hL
      subst hL
      exact ⟨A2, c2, by simp, hown, hb⟩
set_option maxRecDepth 100000

/-- The map literal of one key: what it says of a truth. -/
theorem map_true (w : World) : ∃ w2, (Instr.mapUpdate 291 (.map (some w.heap.size)) (.bool true) (.int .u64 1)).run Try.prog (w.alloc (.map #[] 0)) = .ok () w2 ∧
    (∀ x : Bool, (Instr.lookup 291 (.map (some w.heap.size)) (.bool x) false).run Try.prog w2 = .ok (.int .u64 (if x then 1 else 0)) w2) ∧ Below w.heap.size w w2 := by
  obtain ⟨w2, h1, h2, h3⟩ := (World.ownsMap_made w Try.prog 4 (plainElem (H := Unit) Try.prog 91)).update (bool_keyed Try.underlying4) Try.underlying291 (by unfold maxLen; omega) (keyOf_bool_mk Try.underlying4 true) (plainElem_int (H := Unit) (a := 1) Try.underlying91 (by decide))
  refine ⟨w2, h1, fun x => ?_, ((Below.refl w.heap.size w).alloc (Nat.le_refl _) _).grown h3 (by simp) (fun q hq => by cases hq; exact Nat.le_refl _)⟩
  obtain ⟨c, e1, e2, _⟩ := h2.lookup_int (bool_keyed Try.underlying4) Try.underlying291 Try.underlying91 (by kernel_rfl) (keyOf_bool_mk Try.underlying4 x)
  rw [e1]
  cases x
  · have : (DataW.lit (H := Unit) (.int .u64 0)) = .lit (.int .u64 c) := e2
    cases this; rfl
  · have : (DataW.lit (H := Unit) (.int .u64 1)) = .lit (.int .u64 c) := e2
    cases this; rfl

theorem bitsOf_low (V n : Nat) : bitsOf V n = bitsOf (V % 2 ^ n) n := by
  unfold bitsOf
  refine List.map_congr_left fun j hj => ?_
  rw [Nat.testBit_mod_two_pow]
  simp [List.mem_range.1 hj]
theorem natP_next (v n k V : Nat) (bits : List Bool) (hV : V = v / 16 ^ k) : (bits ++ natP v n k ++ bitsOf V 4) ++ bitsOf (if k + 1 < n then 1 else 0) 1 = bits ++ natP v n (k + 1) := by
  rw [natP_succ, bitsOf_low V 4, hV]
  have : bitsOf (if k + 1 < n then 1 else 0) 1 = [decide (k + 1 < n)] := by
    by_cases h : k + 1 < n <;> simp [h, bitsOf]
  rw [this]; simp [List.append_assoc]
theorem grp_next (v k : Nat) (hk : k < grp v) : (v / 16 ^ k / 16 = 0 ↔ k + 1 = grp v) := by
  rw [Nat.div_div_eq_div_mul, show 16 ^ k * 16 = 16 ^ (k + 1) from (Nat.pow_succ 16 k).symm]
  constructor
  · intro h
    rcases Nat.lt_or_ge (k + 1) (grp v) with h1 | h1
    · have h2 := grp_lo v (by omega)
      have h3 : 16 ^ (k + 1) ≤ 16 ^ (grp v - 1) := Nat.pow_le_pow_right (by omega) (by omega)
      have h4 : 0 < 16 ^ (k + 1) := Nat.pow_pos (by omega)
      have h5 : 1 ≤ v / 16 ^ (k + 1) := by rw [Nat.le_div_iff_mul_le h4]; omega
      omega
    · omega
  · intro h
    rw [h]; exact Nat.div_eq_of_lt (grp_hi v)

set_option maxHeartbeats 1600000 in
theorem natR_any (A : Option Addr) (m c B v : Nat) (bits : List Bool) (w : World) (hm : m = bits.length) (hr : Rd w B 1 A m (boolsV bits)) (hB : B ≤ w.heap.size) (hv : v < 18446744073709551616) (hs : m + 80 ≤ 140737488355328) :
    Calls Try.prog 121 #[.slice A m c, .int .u64 v] w (RetS w 4 1 (m + 5 * grp v) (boolsV (bits ++ natB v))) := by
  have hmm := @run_makeMap Try.prog
  have HM := Lib.hid hm
  have HV := Lib.hid hv
  have HG := Lib.hid (grp_le v hv)
  have hr' := hr.more hB
  clear hm hv hr
  go_enter Try.func121, Try.ntmps121
  go_wp2_with fail
  go_loopw [0, 1] (fun b vv wr => ∃ (k V q : Nat) (A' : Option Addr) (c' : Nat), b = .slice A' q c' ∧ vv = .int .u64 V ∧ Hid (k < grp v ∧ V = v / 16 ^ k ∧ q = m + 5 * k) ∧ V < 18446744073709551616 ∧ Hid (Rd wr wr.heap.size 1 A' q (boolsV (bits ++ natP v (grp v) k))) ∧ Below w.heap.size w wr) (fun _ vv _ => (intOf vv).toNat)
  case atStart => exact ⟨0, v, m, A, c, rfl, rfl, Lib.hid ⟨by have := HG.out; omega, by simp, rfl⟩, HV.out, Lib.hid (by simpa [natP] using hr'), Below.refl _ _⟩
  case round =>
    obtain ⟨k, V, q, A', c', rfl, rfl, HK, hV, HR, hb⟩ := hrel
    have hsz := hb.size
    obtain ⟨hk, hVk, hq⟩ := HK.out
    have hgl := HG.out.2
    have hadd := add_any A' q c' wr.heap.size V 4 (bits ++ natP v (grp v) k) wr (by rw [List.length_append, natP_length, ← HM.out]; exact hq) HR.out (Nat.le_refl _) (by omega) (by omega) (by omega)
    have HADD := Lib.hid hadd
    have hq80 : q + 5 ≤ 140737488355328 := by omega
    clear hadd hr' hk hVk hq hgl
    go_wp2_with fail
    refine HADD.out.mono ?_
    rintro e w1 ⟨A1, c1, rfl, ho1, hb1⟩
    obtain ⟨w2, hup, hlk, hb2⟩ := map_true w1
    have hr2 := own_rd ho1 hb2
    have hl1 := hlk true
    have hl0 := hlk false
    have hbw := hb.trans (hb1.mono hsz)
    have hs1 := hbw.size
    have hbw2 := hbw.trans (hb2.mono hs1)
    have hs2 := hbw2.size
    have hs12 := hb2.size
    by_cases hz : V / 16 = 0
    · have hlast := (grp_next v k HK.out.1).1 (by rw [← HK.out.2.1]; exact hz)
      have hnx := natP_next v (grp v) k V bits HK.out.2.1
      rw [if_neg (by omega)] at hnx
      have hadd2 := add_any A1 (q + 4) c1 w2.heap.size 0 1 (bits ++ natP v (grp v) k ++ bitsOf V 4) w2 (by rw [List.length_append, List.length_append, natP_length, bitsOf_length, ← HM.out, HK.out.2.2]) (hr2.more hs12) (Nat.le_refl _) (by omega) (by omega) (by omega)
      rw [hnx] at hadd2
      have HADD2 := Lib.hid hadd2
      have HNX := Lib.hid hlast
      have hz' : (V : Int) / 16 = 0 := by omega
      clear hadd2 hnx hlast hr2 ho1 hlk hl1 HADD
      go_wp2_with fail
      refine HADD2.out.mono ?_
      rintro e w3 ⟨A3, c3, rfl, ho3, hb3⟩
      go_wp2_with fail
      go_ret
      refine ⟨A3, c3, ?_, ?_, hbw2.trans (hb3.mono hs2)⟩
      · rw [HK.out.2.2, ← HNX.out]; rfl
      · have h := own_mono ho3 hs2
        rw [HK.out.2.2, ← HNX.out] at h
        unfold natB; rw [← HNX.out]; exact h
    · have hmore : k + 1 < grp v := by
        have h1 := HK.out.1
        rcases Nat.lt_or_ge (k + 1) (grp v) with h2 | h2
        · exact h2
        · exact absurd ((grp_next v k h1).2 (by omega)) (by rw [← HK.out.2.1]; exact hz)
      have hnx := natP_next v (grp v) k V bits HK.out.2.1
      rw [if_pos hmore] at hnx
      have hadd2 := add_any A1 (q + 4) c1 w2.heap.size 1 1 (bits ++ natP v (grp v) k ++ bitsOf V 4) w2 (by rw [List.length_append, List.length_append, natP_length, bitsOf_length, ← HM.out, HK.out.2.2]) (hr2.more hs12) (Nat.le_refl _) (by omega) (by omega) (by omega)
      rw [hnx] at hadd2
      have HADD2 := Lib.hid hadd2
      have HNX := Lib.hid hmore
      have hz' : 0 < (V : Int) / 16 := by omega
      clear hadd2 hnx hmore hr2 ho1 hlk hl0 HADD
      go_wp2_with fail
      refine HADD2.out.mono ?_
      rintro e w3 ⟨A3, c3, rfl, ho3, hb3⟩
      go_wp2_with fail
      go_roundw
      case rel => exact ⟨k + 1, V / 16, q + 4 + 1, A3, c3, rfl, by go_num, Lib.hid ⟨HNX.out, by rw [HK.out.2.1, Nat.div_div_eq_div_mul]; rfl, by have := HK.out.2.2; omega⟩, by omega, Lib.hid (Rd.of_own ho3), hbw2.trans (hb3.mono hs2)⟩
      case measure => simp [intOf]; omega

theorem intR_any (A : Option Addr) (m c B : Nat) (x : Int) (bits : List Bool) (w : World) (hm : m = bits.length) (hr : Rd w B 1 A m (boolsV bits)) (hB : B ≤ w.heap.size) (h0 : -9223372036854775808 ≤ x) (h1 : x ≤ 9223372036854775807) (hs : m + 80 ≤ 140737488355328) :
    Calls Try.prog 122 #[.slice A m c, .int .i64 x] w (RetS w 4 1 (m + 5 * grp (zig x)) (boolsV (bits ++ natB (zig x)))) := by
  have hn := natR_any A m c B (zig x) bits w hm hr hB (zig_lt x h0 h1) hs
  have HN := Lib.hid hn
  have HZ : Hid (((zig x : Nat) : Int) = if x < 0 then 2 * (-(x + 1)) + 1 else 2 * x) := Lib.hid (by unfold zig; split <;> omega)
  clear hn hm hr
  by_cases hx : x < 0
  · have hz := HZ.out
    rw [if_pos hx] at hz
    have hn := HN.out
    rw [hz] at hn
    have HN2 := Lib.hid hn
    clear HZ hn HN hz
    go_enter Try.func122, Try.ntmps122
    go_wp2_with fail
    refine HN2.out.mono ?_
    rintro e w1 ⟨A1, c1, rfl, ho1, hb1⟩
    go_wp2_with fail
    go_ret
    exact ⟨A1, c1, rfl, ho1, hb1⟩
  · have hz := HZ.out
    rw [if_neg hx] at hz
    have hn := HN.out
    rw [hz] at hn
    have HN2 := Lib.hid hn
    clear HZ hn HN hz
    go_enter Try.func122, Try.ntmps122
    go_wp2_with fail
    refine HN2.out.mono ?_
    rintro e w1 ⟨A1, c1, rfl, ho1, hb1⟩
    go_wp2_with fail
    go_ret
    exact ⟨A1, c1, rfl, ho1, hb1⟩

theorem encTo_len (a b : List Int) (hd : List Bool) : ∀ k, k ≤ 1048576 → (encTo a b hd k).2.length ≤ hd.length + 160 * k := by
  intro k
  induction k with
  | zero => intro _; simp [encTo]
  | succ k ih =>
    intro hk
    have h0 := ih (by omega)
    have hs := encTo_le a b hd k
    have hwr := wrap64_rng (b.getD k 0 - bse a k)
    have h1 := (grp_le (encTo a b hd k).1 (by omega)).2
    have h2 := (grp_le _ (zig_lt _ hwr.1 hwr.2)).2
    rw [encTo]
    split
    · show (encTo a b hd k).2.length ≤ _; omega
    · show ((encTo a b hd k).2 ++ _ ++ _).length ≤ _
      rw [List.length_append, List.length_append, natB_length, natB_length]; omega
theorem encH_len (a b : List Int) (h : b.length ≤ 1048576) : (encH a b).length ≤ 208 := by
  unfold encH
  have := grp_le b.length (by omega)
  rw [List.length_append, List.length_append, bitsOf_length, bitsOf_length, natB_length]; omega

theorem add_i64 (A : Option Addr) (m c B : Nat) (V : Int) (bits : List Bool) (w : World) (hm : m = bits.length) (hr : Rd w B 1 A m (boolsV bits)) (hB : B ≤ w.heap.size) (h0 : 0 ≤ V) (h1 : V < 18446744073709551616) (hs : m + 64 ≤ 140737488355328) :
    Calls Try.prog 120 #[.slice A m c, .int .u64 V, .int .i64 64] w (RetS w 4 1 (m + 64) (boolsV (bits ++ bitsOf V.toNat 64))) := by
  obtain ⟨v, rfl⟩ := Int.eq_ofNat_of_zero_le h0
  exact add_any A m c B v 64 bits w hm hr hB (by omega) (by omega) (by omega)

instance (a b : List Int) : Decidable (encOk a b) := inferInstanceAs (Decidable (_ ∧ _ ∧ _))
/-- What the reference's Difference returns. -/
def DiffPost (w : World) (a b : List Int) (e : Ending) (w' : World) : Prop :=
  ∃ A c, e = .returned (.tuple #[.slice A (packB (encB a b)).length c, .bool (decide (encOk a b))]) ∧ w'.ownsRow w.heap.size 5 1 (.slice A (packB (encB a b)).length c) (packB (encB a b)).length (bytesV (packB (encB a b))) ∧ Below w.heap.size w w'

set_option maxHeartbeats 3200000 in
theorem refDiff_any (A A' : Option Addr) (n c n' c' B : Nat) (a b : List Int) (w : World) (hr : Rd w B 1 A n (a.map (Value.int .i64))) (hr' : Rd w B 1 A' n' (b.map (Value.int .i64))) (hn : n = a.length) (hn' : n' = b.length) (hnc : n ≤ 1048576 ∧ n' ≤ 1048576) (ha : i64r a) (hb : i64r b) (hB : B ≤ w.heap.size) :
    Calls Try.prog 42 #[.slice A n c, .slice A' n' c'] w (DiffPost w a b) := by
  obtain ⟨hnc1, hnc2⟩ := hnc
  have HLEN : Hid (∀ k, k ≤ n' → (encTo a b (encH a b) k).2.length ≤ 208 + 160 * k) := Lib.hid fun k hk => by
    have h1 := encTo_len a b (encH a b) k (by omega)
    have h2 := encH_len a b (by omega)
    omega
  have HR := Lib.hid hr
  have HR' := Lib.hid hr'
  have HN := Lib.hid hn
  have HN' := Lib.hid hn'
  have HA := Lib.hid ha
  have HBB := Lib.hid hb
  obtain ⟨B0, hB0⟩ : ∃ B0, B0 = w.heap.size := ⟨_, rfl⟩
  have HB0 := Lib.hid hB0
  rw [← hB0] at hB
  clear hr hr' hn hn' ha hb
  have hb1 := (Below.refl B0 w).alloc (by omega) (.cells #[] 4)
  have hs1 := hb1.size
  have HS1 := Lib.hid (sumInts_any A n c B a (w.alloc (.cells #[] 4)) (HR.out.below (hb1.mono hB)) HN.out (by omega) (by rw [← hB0] at hs1; omega) HA.out)
  clear hB0 hs1
  go_enter Try.func42, Try.ntmps42
  go_wp2_with fail
  refine HS1.out.mono ?_
  rintro e w2 ⟨rfl, hb2⟩
  have hbb2 := hb1.trans (hb2.mono (by have := hb1.size; have := HB0.out; omega))
  have hs2 : B0 ≤ w2.heap.size := by have := hbb2.size; have := HB0.out; omega
  have hra := sumI_rng a
  clear hb1 hb2 HS1
  go_wp2_with fail
  refine (add_i64 _ 0 _ B0 (sumI a) [] w2 rfl (Rd.nil_ _) hs2 hra.1 hra.2 (by omega)).mono ?_
  rintro e w3 ⟨A3, c3, rfl, ho3, hb3⟩
  have hbb3 := hbb2.trans (hb3.mono hs2)
  have hs3 : B0 ≤ w3.heap.size := by have := hbb3.size; have := HB0.out; omega
  clear hra hbb2 hb3 hs2
  go_wp2_with fail
  have HS2 := Lib.hid (sumInts_any A' n' c' B b w3 (HR'.out.below (hbb3.mono hB)) HN'.out (by omega) (by omega) HBB.out)
  refine HS2.out.mono ?_
  rintro e w4 ⟨rfl, hb4⟩
  have hr4 := own_rd ho3 hb4
  have hbb4 := hbb3.trans (hb4.mono hs3)
  have hs4 : B0 ≤ w4.heap.size := by have := hbb4.size; have := HB0.out; omega
  have hs34 := hb4.size
  have hrb := sumI_rng b
  have HADD := Lib.hid (add_i64 A3 (0 + 64) c3 w4.heap.size (sumI b) _ w4 (by simp [bitsOf_length]) (hr4.more hs34) (Nat.le_refl _) hrb.1 hrb.2 (by omega))
  clear hrb hb4 hbb3 HS2 hr4 ho3 hs34 hs3
  go_wp2_with fail
  refine HADD.out.mono ?_
  rintro e w5 ⟨A5, c5, rfl, ho5, hb5⟩
  have hbb5 := hbb4.trans (hb5.mono hs4)
  have hs5 : B0 ≤ w5.heap.size := by have := hbb5.size; have := HB0.out; omega
  have HNAT := Lib.hid (natR_any A5 (0 + 64 + 64) c5 w5.heap.size n' _ w5 (by simp [bitsOf_length]) (Rd.of_own ho5) (Nat.le_refl _) (by omega) (by omega))
  clear hb5 hbb4 HADD ho5 hs4
  go_wp2_with fail
  refine HNAT.out.mono ?_
  clear HNAT
  rintro e w6 ⟨A6, c6, rfl, ho6, hb6⟩
  have hbb6 := hbb5.trans (hb6.mono hs5)
  have HENC : Hid ((([] ++ bitsOf (sumI a).toNat 64) ++ bitsOf (sumI b).toNat 64) ++ natB n' = encH a b ∧ 0 + 64 + 64 + 5 * grp n' = (encH a b).length) := Lib.hid ⟨by rw [HN'.out]; rfl, by unfold encH; rw [← HN'.out, List.length_append, List.length_append, bitsOf_length, bitsOf_length, natB_length]⟩
  rw [HENC.out.1] at ho6
  have ho6' := own_mono ho6 hs5
  obtain ⟨q0, hq0⟩ : ∃ q0, q0 = 0 + 64 + 64 + 5 * grp n' := ⟨_, rfl⟩
  rw [← hq0] at ho6' ⊢
  have HQ0 : Hid (q0 = (encH a b).length) := Lib.hid (hq0.trans HENC.out.2)
  clear hb6 hbb5 ho6 HENC hq0 hs5
  go_wp2_with fail
  go_loopw [6, 7, 24] (fun x s i wr => ∃ (k S q : Nat) (A2 : Option Addr) (c2 : Nat), k ≤ n' ∧ i = .int .i64 k ∧ s = .int .i64 S ∧ x = .slice A2 q c2 ∧ S ≤ k ∧ q ≤ 208 + 160 * k ∧ Hid (S = (encTo a b (encH a b) k).1 ∧ q = (encTo a b (encH a b) k).2.length) ∧ wr.ownsRow B0 4 1 (.slice A2 q c2) q (boolsV (encTo a b (encH a b) k).2) ∧ Below B0 w wr) (fun _ _ i _ => n' - (intOf i).toNat)
  case atStart => exact ⟨0, 0, q0, A6, c6, Nat.zero_le _, rfl, rfl, rfl, Nat.le_refl _, by have := HLEN.out 0 (Nat.zero_le _); have := HQ0.out; simp [encTo] at *; omega, Lib.hid ⟨rfl, HQ0.out⟩, ho6', hbb6⟩
  case round =>
    obtain ⟨k, S, q, A2, c2, hk, rfl, rfl, rfl, hSk, hqk, HSQ, ho, hb⟩ := hrel
    have hsz : B0 ≤ wr.heap.size := by have := hb.size; have := HB0.out; omega
    clear ho6' hbb6
    by_cases hlt : k < n'
    · obtain ⟨x, hx⟩ : ∃ x, b[k]? = some x := ⟨_, List.getElem?_eq_getElem (by have := HN'.out; omega)⟩
      obtain ⟨xb, xo, rfl, _, hcx⟩ := (HR'.out.below (hb.mono hB)).at1 hlt (u := .int .i64 x) (by rw [List.getElem?_map, hx]; rfl)
      have hget : b.getD k 0 = x := by simp [List.getD, hx]
      have HG := Lib.hid hget
      have HX := Lib.hid hx
      clear hx hget
      obtain ⟨y, hy⟩ : ∃ y, y = bse a k := ⟨_, rfl⟩
      have HY := Lib.hid hy
      have hkk : (k : Int) < n' := by omega
      by_cases hkn : k < n
      · obtain ⟨yb, yo, rfl, _, hcy⟩ := (HR.out.below (hb.mono hB)).at1 hkn (u := .int .i64 y) (by
          have h1 : a[k]? = some (a.getD k 0) := by simp [List.getD, List.getElem?_eq_getElem (show k < a.length by have := HN.out; omega)]
          rw [List.getElem?_map, h1, hy]; rfl)
        clear hy
        · by_cases hxy : (x == y) = true
          · have hnx : encTo a b (encH a b) (k + 1) = (S + 1, (encTo a b (encH a b) k).2) := by
              have : b.getD k 0 = bse a k := by rw [HG.out, ← HY.out]; simpa using hxy
              rw [encTo, if_pos this, ← HSQ.out.1]
            have HNX := Lib.hid hnx
            clear hnx
            go_wp2_with fail
            go_roundw
            case rel => exact ⟨k + 1, S + 1, q, A2, c2, by omega, by go_num, by go_num, rfl, by omega, by omega, Lib.hid (by rw [HNX.out]; exact ⟨rfl, HSQ.out.2⟩), by rw [HNX.out]; exact ho, hb⟩
            case measure => simp [intOf]; omega
          · have hxy' : (x == y) = false := by simpa using hxy
            have hnx : encTo a b (encH a b) (k + 1) = (0, (encTo a b (encH a b) k).2 ++ natB S ++ natB (zig (wrap64 (x - y)))) := by
              have : ¬ b.getD k 0 = bse a k := by rw [HG.out, ← HY.out]; simpa using hxy
              rw [encTo, if_neg this, ← HSQ.out.1, HG.out, ← HY.out]
            have HNX := Lib.hid hnx
            have HNAT := Lib.hid (natR_any A2 q c2 wr.heap.size S _ wr HSQ.out.2 (Rd.of_own ho) (Nat.le_refl _) (by omega) (by omega))
            have hgS := (grp_le S (by omega)).2
            clear hnx hxy
            go_wp2_with fail
            refine HNAT.out.mono ?_
            clear HNAT
            rintro e w8 ⟨A8, c8, rfl, ho8, hb8⟩
            have hbb8 := hb.trans (hb8.mono hsz)
            have hs8 : B0 ≤ w8.heap.size := by have := hbb8.size; have := HB0.out; omega
            have hwr9 := wrap64_rng (x - y)
            have HINT := Lib.hid (intR_any A8 (q + 5 * grp S) c8 w8.heap.size (wrap64 (x - y)) _ w8 (by rw [List.length_append, natB_length, ← HSQ.out.2]) (Rd.of_own ho8) (Nat.le_refl _) hwr9.1 hwr9.2 (by omega))
            have hgz := (grp_le _ (zig_lt _ hwr9.1 hwr9.2)).2
            have HGZ := Lib.hid hgz
            have HGS := Lib.hid hgS
            clear hwr9 hb8 ho8 hb ho hgz hgS
            go_wp2_with fail
            refine HINT.out.mono ?_
            clear HINT
            rintro e w9 ⟨A9, c9, rfl, ho9, hb9⟩
            have hbb9 := hbb8.trans (hb9.mono hs8)
            have ho9' := own_mono ho9 hs8
            clear hb9 ho9 hbb8
            go_wp2_with fail
            go_roundw
            case rel => exact ⟨k + 1, 0, _, A9, c9, by omega, by go_num, rfl, rfl, by omega, by have := HGZ.out; have := HGS.out; omega, Lib.hid (by rw [HNX.out]; exact ⟨rfl, by simp only [List.length_append, natB_length]; rw [← HSQ.out.2]⟩), by rw [HNX.out]; exact ho9', hbb9⟩
            case measure => simp [intOf]; omega
      · have hy0 : y = 0 := by
          rw [hy]; unfold bse
          simp [List.getD, List.getElem?_eq_none (show a.length ≤ k by have := HN.out; omega)]
        have hxr := HBB.out x (List.mem_of_getElem? HX.out)
        clear hy
        subst hy0
        · by_cases hxy : (x == 0) = true
          · have hnx : encTo a b (encH a b) (k + 1) = (S + 1, (encTo a b (encH a b) k).2) := by
              have : b.getD k 0 = bse a k := by rw [HG.out, ← HY.out]; simpa using hxy
              rw [encTo, if_pos this, ← HSQ.out.1]
            have HNX := Lib.hid hnx
            clear hnx
            go_wp2_with fail
            go_roundw
            case rel => exact ⟨k + 1, S + 1, q, A2, c2, by omega, by go_num, by go_num, rfl, by omega, by omega, Lib.hid (by rw [HNX.out]; exact ⟨rfl, HSQ.out.2⟩), by rw [HNX.out]; exact ho, hb⟩
            case measure => simp [intOf]; omega
          · have hxy' : (x == 0) = false := by simpa using hxy
            have hnx : encTo a b (encH a b) (k + 1) = (0, (encTo a b (encH a b) k).2 ++ natB S ++ natB (zig (x))) := by
              have : ¬ b.getD k 0 = bse a k := by rw [HG.out, ← HY.out]; simpa using hxy
              rw [encTo, if_neg this, ← HSQ.out.1, HG.out, ← HY.out, show wrap64 (x - 0) = x by unfold wrap64; omega]
            have HNX := Lib.hid hnx
            have HNAT := Lib.hid (natR_any A2 q c2 wr.heap.size S _ wr HSQ.out.2 (Rd.of_own ho) (Nat.le_refl _) (by omega) (by omega))
            have hgS := (grp_le S (by omega)).2
            clear hnx hxy
            go_wp2_with fail
            refine HNAT.out.mono ?_
            clear HNAT
            rintro e w8 ⟨A8, c8, rfl, ho8, hb8⟩
            have hbb8 := hb.trans (hb8.mono hsz)
            have hs8 : B0 ≤ w8.heap.size := by have := hbb8.size; have := HB0.out; omega
            have hwr9 := hxr
            have HINT := Lib.hid (intR_any A8 (q + 5 * grp S) c8 w8.heap.size (x) _ w8 (by rw [List.length_append, natB_length, ← HSQ.out.2]) (Rd.of_own ho8) (Nat.le_refl _) hwr9.1 hwr9.2 (by omega))
            have hgz := (grp_le _ (zig_lt _ hwr9.1 hwr9.2)).2
            have HGZ := Lib.hid hgz
            have HGS := Lib.hid hgS
            clear hwr9 hb8 ho8 hb ho hgz hgS
            go_wp2_with fail
            refine HINT.out.mono ?_
            clear HINT
            rintro e w9 ⟨A9, c9, rfl, ho9, hb9⟩
            have hbb9 := hbb8.trans (hb9.mono hs8)
            have ho9' := own_mono ho9 hs8
            clear hb9 ho9 hbb8
            go_wp2_with fail
            go_roundw
            case rel => exact ⟨k + 1, 0, _, A9, c9, by omega, by go_num, rfl, rfl, by omega, by have := HGZ.out; have := HGS.out; omega, Lib.hid (by rw [HNX.out]; exact ⟨rfl, by simp only [List.length_append, natB_length]; rw [← HSQ.out.2]⟩), by rw [HNX.out]; exact ho9', hbb9⟩
            case measure => simp [intOf]; omega
    · obtain rfl : k = n' := by omega
      have henc : encB a b = encEnd (encTo a b (encH a b) k) := by unfold encB; rw [← HN'.out]
      have HENC := Lib.hid henc
      have HDEC : Hid (∀ t, t = (encB a b).length → (decide (encOk a b) = decide (n ≤ 65536 ∧ k ≤ 65536 ∧ t ≤ 524288))) := Lib.hid fun t ht => by
        have h1 := HN.out
        have h2 := HN'.out
        subst ht
        refine decide_eq_decide.2 ?_
        unfold encOk
        rw [← h1, ← h2]
      clear henc
      by_cases hS : 0 < S
      · have he2 : encB a b = (encTo a b (encH a b) k).2 ++ natB S := by
          rw [HENC.out]; unfold encEnd; rw [← HSQ.out.1, if_pos hS]
        have HNAT := Lib.hid (natR_any A2 q c2 wr.heap.size S _ wr HSQ.out.2 (Rd.of_own ho) (Nat.le_refl _) (by omega) (by omega))
        have hgS := (grp_le S (by omega)).2
        have HT : Hid (q + 5 * grp S = (encB a b).length) := Lib.hid (by rw [he2, List.length_append, natB_length, ← HSQ.out.2])
        rw [← he2] at HNAT
        have hqg : q + 5 * grp S ≤ 140737488355328 := by omega
        generalize q + 5 * grp S = t at *
        clear he2 HENC hgS
        go_wp2_with fail
        refine HNAT.out.mono ?_
        clear HNAT
        rintro e w8 ⟨A8, c8, rfl, ho8, hb8⟩
        have hbb8 := hb.trans (hb8.mono hsz)
        have hs8 : B0 ≤ w8.heap.size := by have := hbb8.size; have := HB0.out; omega
        have HBY := Lib.hid (bytes_any A8 t c8 w8.heap.size (encB a b) w8 HT.out (Rd.of_own ho8) (Nat.le_refl _) hqg)
        clear hb8 ho8 hb ho
        have hcase : 65536 < n ∨ (n ≤ 65536 ∧ 65536 < k) ∨ (n ≤ 65536 ∧ k ≤ 65536 ∧ 524288 < t) ∨ (n ≤ 65536 ∧ k ≤ 65536 ∧ t ≤ 524288) := by omega
        rcases hcase with t1 | ⟨t1, t2⟩ | ⟨t1, t2, t3⟩ | ⟨t1, t2, t3⟩
        all_goals
          have hdec := HDEC.out t HT.out
          first
            | rw [show decide (n ≤ 65536 ∧ k ≤ 65536 ∧ t ≤ 524288) = true from decide_eq_true ⟨by omega, by omega, by omega⟩] at hdec
            | rw [show decide (n ≤ 65536 ∧ k ≤ 65536 ∧ t ≤ 524288) = false from decide_eq_false (by omega)] at hdec
          have HD := Lib.hid hdec
          clear hdec
          go_wp2_with fail
          refine HBY.out.mono ?_
          rintro e w9 ⟨A9, c9, rfl, ho9, hb9⟩
          have hbb9 := hbb8.trans (hb9.mono hs8)
          have ho9' := own_mono ho9 hs8
          clear hb9 ho9
          go_wp2_with fail
          go_ret2
          refine ⟨A9, c9, ?_, by rw [← HB0.out]; exact ho9', by rw [← HB0.out]; exact hbb9⟩
          rw [HD.out]
          first
            | rfl
            | exact congrArg (fun x => Ending.returned (.tuple #[.slice A9 (packB (encB a b)).length c9, .bool x])) (show decide ((t : Int) ≤ 524288) = true from decide_eq_true (by omega))
            | exact congrArg (fun x => Ending.returned (.tuple #[.slice A9 (packB (encB a b)).length c9, .bool x])) (show decide ((t : Int) ≤ 524288) = false from decide_eq_false (by omega))
      · obtain rfl : S = 0 := by omega
        have he2 : encB a b = (encTo a b (encH a b) k).2 := by
          rw [HENC.out]; unfold encEnd; rw [← HSQ.out.1, if_neg hS]
        have HT : Hid (q = (encB a b).length) := Lib.hid (by rw [he2]; exact HSQ.out.2)
        rw [← he2] at ho
        have HBY := Lib.hid (bytes_any A2 q c2 wr.heap.size (encB a b) wr HT.out (Rd.of_own ho) (Nat.le_refl _) (by omega))
        clear he2 HENC hS ho
        have hcase : 65536 < n ∨ (n ≤ 65536 ∧ 65536 < k) ∨ (n ≤ 65536 ∧ k ≤ 65536 ∧ 524288 < q) ∨ (n ≤ 65536 ∧ k ≤ 65536 ∧ q ≤ 524288) := by omega
        rcases hcase with t1 | ⟨t1, t2⟩ | ⟨t1, t2, t3⟩ | ⟨t1, t2, t3⟩
        all_goals
          have hdec := HDEC.out q HT.out
          first
            | rw [show decide (n ≤ 65536 ∧ k ≤ 65536 ∧ q ≤ 524288) = true from decide_eq_true ⟨by omega, by omega, by omega⟩] at hdec
            | rw [show decide (n ≤ 65536 ∧ k ≤ 65536 ∧ q ≤ 524288) = false from decide_eq_false (by omega)] at hdec
          have HD := Lib.hid hdec
          clear hdec
          go_wp2_with fail
          refine HBY.out.mono ?_
          rintro e w9 ⟨A9, c9, rfl, ho9, hb9⟩
          have hbb9 := hb.trans (hb9.mono hsz)
          have ho9' := own_mono ho9 hsz
          clear hb9 ho9
          go_wp2_with fail
          go_ret2
          refine ⟨A9, c9, ?_, by rw [← HB0.out]; exact ho9', by rw [← HB0.out]; exact hbb9⟩
          rw [HD.out]
          first
            | rfl
            | exact congrArg (fun x => Ending.returned (.tuple #[.slice A9 (packB (encB a b)).length c9, .bool x])) (show decide ((q : Int) ≤ 524288) = true from decide_eq_true (by omega))
            | exact congrArg (fun x => Ending.returned (.tuple #[.slice A9 (packB (encB a b)).length c9, .bool x])) (show decide ((q : Int) ≤ 524288) = false from decide_eq_false (by omega))
end Go.Proofs.Ytnidcmhfbkdioaa
