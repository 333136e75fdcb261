/-
  The contracts of input.frames, the writer's Bytes, bytes.Equal, slices.Clone at bits, Bits.Add and Bits.Bytes. Conditions: sizes within the reach.
-/
import Derived.Test.YtlgcdcjfobfoiaaIn1
namespace Go.Proofs.Ytlgcdcjfobfoiaa
open Go.RowKit
set_option maxRecDepth 100000

def errFs (a b : List Inp) : Int := if errF a.length a = 0 then errF a.length b else errF a.length a

set_option maxHeartbeats 800000 in
theorem frames_any (A A' : Option Addr) (n c n' c' B : Nat) (l l' : List Inp) (w : World) (hn : n = l.length) (hn' : n' = l'.length) (hm : n ≤ 9223372036854775807) (hm' : n' ≤ 9223372036854775807)
   (hr : Rd w B 3 A n (inCs l)) (hr' : Rd w B 3 A' n' (inCs l')) (hB : B ≤ w.heap.size) :
    Calls Try.prog 63 #[.slice A n c, .slice A' n' c'] w fun e w' => e = .returned (.int .i64 (errFs l l')) ∧ Below w.heap.size w w' := by
  have h1 := frame_any (n : Int) A n c B l w hn hm hr hB
  have h2 : ∀ w', Below w.heap.size w w' → Calls Try.prog 18 #[.int .i64 n, .slice A' n' c'] w' fun e w'' => e = .returned (.int .i64 (errF n l')) ∧ Below w'.heap.size w' w'' :=
    fun w' hb => frame_any (n : Int) A' n' c' B l' w' hn' hm' (hr'.below (hb.mono hB)) (by have := hb.size; omega)
  have H1 := Lib.hid h1
  have H2 := Lib.hid h2
  have HE : Hid (errFs l l' = if errF n l = 0 then errF n l' else errF n l) := by rw [hn]; exact rfl
  clear h1 h2 hn hn' hr hr'
  go_enter Try.func63, Try.ntmps63
  go_wp2_with fail
  refine H1.out.mono ?_
  rintro e w1 ⟨rfl, hb1⟩
  by_cases h0 : errF n l = 0
  · have t0 : (errF n l != 0) = false := by simp [h0]
    have HT := Lib.hid h0
    clear h0
    go_wp2_with fail
    refine (H2.out _ hb1).mono ?_
    rintro e w2 ⟨rfl, hb2⟩
    go_wp2_with fail
    go_ret
    exact ⟨ret_i (by rw [HE.out, if_pos HT.out]), hb1.trans (hb2.mono hb1.size)⟩
  · have t0 : (errF n l != 0) = true := by simp [h0]
    have HT := Lib.hid h0
    clear h0
    go_wp2_with fail
    go_ret
    exact ⟨ret_i (by rw [HE.out, if_neg HT.out]), hb1⟩

/-- A slice of n elements (type t, 'size' cells each) in new memory; what was there is as it was. -/
def RetS (w0 : World) (t : TypeId) (size n : Nat) (xs : List Value) (e : Ending) (w' : World) : Prop :=
  ∃ A c, e = .returned (.slice A n c) ∧ w'.ownsRow w0.heap.size t size (.slice A n c) n xs ∧ Below w0.heap.size w0 w'

set_option maxHeartbeats 800000 in
theorem wbytes_any (g base : Nat) (bits : List Bool) (w : World) (hst : WrSt w base g bits) (hs : bits.length ≤ 524288) :
    Calls Try.prog 65 #[.pointer (some ⟨g, 0, none⟩)] w (RetS w 5 1 (packB bits).length (bytesV (packB bits))) := by
  obtain ⟨i0, hi0, hz0, hz1, hz2⟩ := info_parts T.info5
  obtain ⟨bv, hbk, hown, hbase⟩ := hst
  have hl := packB_length bits
  have hl2 : (packB bits).length ≤ 65536 := by omega
  clear hl
  obtain ⟨A, c, rfl⟩ := ownsRow_slice hown
  have hr := Rd.of_own hown
  have c0 : w.cell? ⟨g, 0, none⟩ = some (.slice A (packB bits).length c) := hbk.cell 0
  clear hbk
  go_enter Try.func65, Try.ntmps65
  go_wp2_with (at_builtin
               go_must (refine wpList_append_rd _ rfl (.const (.slice none 0 0)) (.tmp 6) _ rfl w.heap.size 5 i0 (.int .u8 0) 1 1 Try.underlying30 hi0 hz0 hz1 hz2 rfl (by decide) (.slice none 0 0) 0 [] rfl (World.ownsRow_nil _ _ _ _) w.heap.size A _ c (bytesV (packB bits)) rfl hr (bytesV_one _) ?c2 ?c3 (Nat.le_refl _) ?_)
               case c2 => unfold maxLen; omega
               case c3 => omega
               intro A' c' w1 hown1 hg1 hat1)
  go_ret
  simp only [Nat.zero_add, List.nil_append] at hown1
  exact ⟨A', c', by simp, hown1, (Below.refl _ _).grown hg1 (Nat.le_refl _) (by simp [Value.ownBlock])⟩

theorem strOf_bytes (l : List Nat) (k : List Nat) (hl : ∀ b ∈ l, b < 256) (hk : ∀ b ∈ k, b < 256) : (strOfNums (l.map fun (b : Nat) => (b : Int)) = strOfNums (k.map fun (b : Nat) => (b : Int))) ↔ l = k := by
  constructor
  · intro h
    have h2 := congrArg (fun s : ByteArray => s.data.toList.map UInt8.toNat) h
    simp only [strOfNums_data, List.map_map] at h2
    have key : ∀ m : List Nat, (∀ b ∈ m, b < 256) → m.map (UInt8.toNat ∘ (fun n : Int => UInt8.ofNat n.toNat) ∘ fun (b : Nat) => (b : Int)) = m := by
      intro m hm
      conv => rhs; rw [← List.map_id m]
      refine List.map_congr_left fun b hb => ?_
      have := hm b hb
      simp; omega
    rw [key l hl, key k hk] at h2
    exact h2
  · rintro rfl; rfl

theorem Rd.bytesIn {w : World} {B n : Nat} {A : Option Addr} {l : List Nat} (h : Rd w B 1 A n (bytesV l)) : Lib.BytesIn w A n (l.map fun (b : Nat) => (b : Int)) := by
  intro hn
  obtain ⟨b, o, rfl, _, hc⟩ := h.2 hn
  have hl := h.1
  rw [bytesV_length] at hl
  refine ⟨b, o, rfl, fun i hi => ?_⟩
  rw [hc i _ (bytesV_get l i (by omega))]
  simp [List.getD]
  rw [List.getElem?_eq_getElem (by omega)]; simp

set_option maxHeartbeats 800000 in
theorem bytesEqual_any (A A' : Option Addr) (n c n' c' B : Nat) (l l' : List Nat) (w : World) (hl : ∀ b ∈ l, b < 256) (hl' : ∀ b ∈ l', b < 256)
   (hr : Rd w B 1 A n (bytesV l)) (hr' : Rd w B 1 A' n' (bytesV l')) :
    Calls Try.prog 21 #[.slice A n c, .slice A' n' c'] w fun e w' => e = .returned (.bool (decide (l = l'))) ∧ w = w' := by
  have e1 := (Rd.bytesIn hr).convert (P := Try.prog) (by have := hr.1; rw [bytesV_length] at this; simpa using this) c 30 5 9 Try.underlying30 Try.underlying5 Try.underlying9
  have e2 := (Rd.bytesIn hr').convert (P := Try.prog) (by have := hr'.1; rw [bytesV_length] at this; simpa using this) c' 30 5 9 Try.underlying30 Try.underlying5 Try.underlying9
  have hs := strOf_bytes l l' hl hl'
  generalize strOfNums (l.map fun (b : Nat) => (b : Int)) = s at *
  generalize strOfNums (l'.map fun (b : Nat) => (b : Int)) = s' at *
  have HS := Lib.hid hs
  clear hs hr hr' hl hl'
  go_enter Try.func21, Try.ntmps21
  go_wp2_with fail
  go_ret
  refine ⟨ret_b ?_, rfl⟩
  rw [ByteArray.toList_eq, ByteArray.toList_eq, Bool.eq_iff_iff, beq_iff_eq, decide_eq_true_iff, ← HS.out]
  exact ⟨fun h => ByteArray.ext (Array.toList_inj.mp h), fun h => by rw [h]⟩

def boolsV (l : List Bool) : List Value := l.map Value.bool
theorem boolsV_length (l : List Bool) : (boolsV l).length = l.length := by simp [boolsV]
theorem boolsV_append (l k : List Bool) : boolsV (l ++ k) = boolsV l ++ boolsV k := by simp [boolsV]
theorem boolsV_one (l : List Bool) : ∀ u ∈ boolsV l, u.oneCell' = true := by
  intro u hu
  simp only [boolsV, List.mem_map] at hu
  obtain ⟨b, _, rfl⟩ := hu
  rfl
theorem boolsV_get (l : List Bool) (j : Nat) (h : j < l.length) : (boolsV l)[j]? = some (.bool (l.getD j false)) := by
  simp [boolsV, h, List.getD]
theorem T.info4 : (Try.prog.info? 4).map (fun i => (i.zero, i.size, i.bytes)) = some (some (.bool false), 1, 1) := by kernel_rfl

set_option maxHeartbeats 800000 in
theorem cloneBits_any (A : Option Addr) (n c B : Nat) (xs : List Value) (w : World) (hr : Rd w B 1 A n xs) (h1 : ∀ u ∈ xs, u.oneCell' = true) (hB : B ≤ w.heap.size) (hs : n ≤ 140737488355328) :
    Calls Try.prog 92 #[.slice A n c] w (RetS w 4 1 n xs) := by
  obtain ⟨i0, hi0, hz0, hz1, hz2⟩ := info_parts T.info4
  have hn := fun wx => Lib.run_eql_slice_nil (P := Try.prog) wx 106 4 A n c 0 0 Try.underlying106
  cases A with
  | none =>
    obtain rfl : n = 0 := by
      rcases Nat.eq_zero_or_pos n with h | h
      · exact h
      · obtain ⟨_, _, h, _⟩ := hr.2 h; cases h
    obtain rfl : xs = [] := List.eq_nil_of_length_eq_zero (by simpa using hr.1)
    go_enter Try.func92, Try.ntmps92
    go_wp2_with fail
    go_ret
    exact ⟨none, 0, by simp, World.ownsRow_nil _ _ _ _, Below.refl _ _⟩
  | some a =>
    go_enter Try.func92, Try.ntmps92
    go_wp2_with (at_builtin
                 go_must (refine wpList_append_rd _ rfl (.tmp 5) (.tmp 6) _ rfl w.heap.size 4 i0 (.bool false) 1 1 Try.underlying106 hi0 hz0 hz1 hz2 rfl (by decide) (.slice (some ⟨w.heap.size, 0, none⟩) 0 0) 0 [] rfl (World.ownsRow_lit w #[] 0 (Nat.le_refl _) (by decide) rfl) B (some a) n c xs rfl (hr.below ((Below.refl B w).alloc hB _)) h1 ?c2 ?c3 ?c4 ?_)
                 case c2 => unfold maxLen; omega
                 case c3 => omega
                 case c4 => simp
                 intro A' c' w1 hown1 hg1 hat1)
    go_ret
    simp only [Nat.zero_add, List.nil_append] at hown1
    exact ⟨A', c', by simp, hown1, ((Below.refl _ _).alloc (Nat.le_refl _) _).grown hg1 (by simp) (by simp [Value.ownBlock])⟩

/-- A bit, as the walk writes it. -/
theorem bit_eq (v k : Nat) (hv : v < 18446744073709551616) : (Go.bits .and .u64 ((v : Int) / 2 ^ k) 1 == 1) = v.testBit k := by
  rw [and1_u64 v k hv]
  cases v.testBit k <;> rfl

set_option maxHeartbeats 800000 in
theorem add_any (A : Option Addr) (m c B v n : Nat) (bits : List Bool) (w : World) (hm : m = bits.length) (hr : Rd w B 1 A m (boolsV bits)) (hB : B ≤ w.heap.size) (hv : v < 2 ^ 64) (hn : n ≤ 64) (hs : m + n ≤ 140737488355328) :
    Calls Try.prog 66 #[.slice A m c, .int .u64 v, .int .i64 n] w (RetS w 4 1 (m + n) (boolsV (bits ++ bitsOf v n))) := by
  obtain ⟨i0, hi0, hz0, hz1, hz2⟩ := info_parts T.info4
  have hc := cloneBits_any A m c B (boolsV bits) w hr (boolsV_one _) hB (by omega)
  have HC := Lib.hid hc
  have HV := Lib.hid hv
  have HM := Lib.hid hm
  clear hc hv hm hr
  go_enter Try.func66, Try.ntmps66
  go_wp2_with fail
  refine HC.out.mono ?_
  rintro e w1 ⟨A1, c1, rfl, hown1, hb1⟩
  go_wp2_with fail
  go_loopw [7, 12] (fun o i wr => ∃ (k : Nat) (A2 : Option Addr) (c2 : Nat), k ≤ n ∧ i = .int .i64 k ∧ o = .slice A2 (m + k) c2 ∧ wr.ownsRow w.heap.size 4 1 (.slice A2 (m + k) c2) (m + k) (boolsV (bits ++ bitsOf v k)) ∧ Below w.heap.size w wr) (fun _ i _ => n - (intOf i).toNat)
  case atStart => exact ⟨0, A1, c1, Nat.zero_le _, rfl, rfl, by simpa [bitsOf] using hown1, hb1⟩
  case round =>
    obtain ⟨k, A2, c2, hk, rfl, rfl, hown, hb⟩ := hrel
    have hsz := hb.size
    by_cases hlt : k < n
    · have hbit := bit_eq v k HV.out
      have HS := Lib.hid (bitsOf_succ v k)
      have hk64 : (k : Int) < 64 := by omega
      go_wp2_with (at_builtin
                   go_must (refine wpList_append_one _ rfl (.tmp 15) (.tmp 21) _ rfl w.heap.size 4 i0 (.bool false) 1 1 Try.underlying106 hi0 hz0 hz1 hz2 rfl (by decide) _ _ _ rfl (hown.alloc _) wr.heap.size 1 4 #[.bool (v.testBit k)] rfl (Bk.new _ _ _) rfl ?c1 (m + (k + 1)) ?c5 ?c2 ?c3 ?c4 ?_)
                   case c1 => simp [Value.oneCell']
                   case c2 => unfold maxLen; omega
                   case c3 => omega
                   case c4 => simp; omega
                   case c5 => omega
                   intro g3 c3 w3 hown3 hg3 hat3)
      go_roundw
      case measure => simp [intOf]; omega
      case rel =>
        refine ⟨k + 1, _, c3, by omega, by go_num, rfl, ?_, (hb.alloc hsz _).grown hg3 (by simp; omega) (fun q hq => (hown.lt q hq).1)⟩
        rw [HS.out, ← List.append_assoc, boolsV_append]
        exact hown3
    · go_wp2
      go_ret
      obtain rfl : k = n := by omega
      exact ⟨A2, c2, by simp, hown, hb⟩

end Go.Proofs.Ytlgcdcjfobfoiaa
