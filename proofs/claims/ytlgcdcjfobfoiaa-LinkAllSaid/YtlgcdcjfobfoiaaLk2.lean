/-
  Numbers as bytes, the highest first: plain lemmas; the contracts of link.number, link.value and the reference's big and whole. Conditions: numbers of moderate size, bytes that can be read.
-/
import Derived.Test.YtlgcdcjfobfoiaaLk1
import Derived.Test.YtlgcdcjfobfoiaaNt1
import Derived.Test.YtlgcdcjfobfoiaaIn2
import Derived.Lib.AppendZerosOnto
namespace Go.Proofs.Ytlgcdcjfobfoiaa
open Go.RowKit
set_option maxRecDepth 100000

/-- The n lowest bytes of a number, the highest first. -/
def bigB (s : Nat) : Nat → List Nat
  | 0 => []
  | k + 1 => (s / 256 ^ k % 256) :: bigB s k
theorem bigB_length (s n : Nat) : (bigB s n).length = n := by
  induction n with
  | zero => rfl
  | succ n ih => simp [bigB, ih]
theorem bigB_lt (s n : Nat) : ∀ b ∈ bigB s n, b < 256 := by
  induction n with
  | zero => simp [bigB]
  | succ n ih =>
    intro b hb
    rw [bigB] at hb
    rcases List.mem_cons.1 hb with h | h
    · rw [h]; omega
    · exact ih b h
theorem bigB_at (s n j : Nat) (h : j < n) : (bigB s n)[j]? = some (s / 256 ^ (n - 1 - j) % 256) := by
  induction n generalizing j with
  | zero => omega
  | succ n ih =>
    cases j with
    | zero => simp [bigB]
    | succ j =>
      rw [bigB, List.getElem?_cons_succ, ih j (by omega)]
      congr 4; omega
def wholeB (l : List Nat) : Nat := l.foldl (fun n c => 256 * n + c) 0
theorem u8_mod (n : Nat) : IntKind.u8.wrap (n : Int) = ((n % 256 : Nat) : Int) := by
  rw [IntKind.wrap_u8]; omega

/-- A block that has just been laid, read as a slice. -/
theorem Rd.lit (w : World) (xs : List Value) (t : TypeId) : Rd (w.alloc (.cells xs.toArray t)) (w.heap.size + 1) 1 (some ⟨w.heap.size, 0, none⟩) xs.length xs :=
  ⟨by simp, fun _ => ⟨_, _, rfl, by omega, fun j u hu => by
    rw [Nat.zero_add]
    exact ((Bk.new w t xs.toArray).cell j).trans (by simpa using hu)⟩⟩

set_option maxHeartbeats 800000 in
theorem number_any (base : Nat) (A : Option Addr) (n c x : Nat) (l : List Nat) (w : World) (hx : x ≤ 9223372036854775807) (hown : w.ownsRow base 5 1 (.slice A n c) n (bytesV l)) (hn : n = l.length) (hs : n + 4 ≤ 140737488355328) (hb : base ≤ w.heap.size) :
    Calls Try.prog 75 #[.slice A n c, .int .i64 x] w fun e w' => ∃ A' c', e = .returned (.slice A' (n + 4) c') ∧ w'.ownsRow base 5 1 (.slice A' (n + 4) c') (n + 4) (bytesV (l ++ bigB x 4)) ∧ Below base w w' := by
  obtain ⟨i0, hi0, hz0, hz1, hz2⟩ := info_parts T.info5
  have hv : bytesV (l ++ bigB x 4) = bytesV l ++ [.int .u8 ((x : Int) / 16777216 % 256), .int .u8 ((x : Int) / 65536 % 256), .int .u8 ((x : Int) / 256 % 256), .int .u8 ((x : Int) % 256)] := by
    rw [bytesV_append]
    simp [bigB, bytesV]
  have HV := Lib.hid hv
  have HN := Lib.hid hn
  clear hv hn
  go_enter Try.func75, Try.ntmps75
  go_wp2_with
    (at_builtin
     go_must (refine wpList_append_rd _ rfl (.tmp 5) (.tmp 17) _ rfl base 5 i0 (.int .u8 0) 1 1 Try.underlying30 hi0 hz0 hz1 hz2 rfl (by decide) (.slice A n c) n (bytesV l) rfl (hown.alloc _) (w.heap.size + 1) (some ⟨w.heap.size, 0, none⟩) 4 4 [.int .u8 ((x : Int) / 16777216 % 256), .int .u8 ((x : Int) / 65536 % 256), .int .u8 ((x : Int) / 256 % 256), .int .u8 ((x : Int) % 256)] rfl (Rd.lit w _ 5) ?c1 ?c2 ?c3 ?c4 ?_)
     case c1 => simp [Value.oneCell']
     case c2 => unfold maxLen; omega
     case c3 => omega
     case c4 => simp; omega
     intro A' c' w1 hown1 hg1 hat1)
  go_ret
  exact ⟨A', c', rfl, by rw [HV.out]; exact hown1, ((Below.refl base w).alloc hb _).grown hg1 (by simp; omega) (fun q hq => (hown.lt q hq).1)⟩
theorem or_split (a b k : Nat) (hb : b < 2 ^ k) (h : a * 2 ^ k + b < 9223372036854775808) : Go.bits .or .i64 ((a : Int) * ((2 ^ k : Nat) : Int)) (b : Int) = ((a * 2 ^ k + b : Nat) : Int) := by
  rw [show (a : Int) * ((2 ^ k : Nat) : Int) = ((a * 2 ^ k : Nat) : Int) by rw [Int.natCast_mul]]
  have ha : a * 2 ^ k < 18446744073709551616 := by omega
  have hbb : b < 18446744073709551616 := by omega
  show IntKind.i64.wrap ((BitVec.ofInt 64 ((a * 2 ^ k : Nat) : Int) ||| BitVec.ofInt 64 (b : Int)).toNat : Int) = _
  have e1 : (BitVec.ofInt 64 ((a * 2 ^ k : Nat) : Int)).toNat = a * 2 ^ k := by rw [BitVec.ofInt_natCast, BitVec.toNat_ofNat]; exact Nat.mod_eq_of_lt (by omega)
  have e2 : (BitVec.ofInt 64 (b : Int)).toNat = b := by rw [BitVec.ofInt_natCast, BitVec.toNat_ofNat]; exact Nat.mod_eq_of_lt (by omega)
  rw [BitVec.toNat_or, e1, e2, ← Nat.shiftLeft_eq, ← Nat.shiftLeft_add_eq_or_of_lt hb, Nat.shiftLeft_eq, IntKind.wrap_i64]
  omega
theorem or_8 (a b : Nat) (hb : b < 256) (h : a < 4294967296) : Go.bits .or .i64 ((a : Int) * 256) (b : Int) = ((a * 256 + b : Nat) : Int) := or_split a b 8 hb (by omega)
theorem or_16 (a b : Nat) (hb : b < 65536) (h : a < 4294967296) : Go.bits .or .i64 ((a : Int) * 65536) (b : Int) = ((a * 65536 + b : Nat) : Int) := or_split a b 16 hb (by omega)
theorem or_24 (a b : Nat) (hb : b < 16777216) (h : a < 4294967296) : Go.bits .or .i64 ((a : Int) * 16777216) (b : Int) = ((a * 16777216 + b : Nat) : Int) := or_split a b 24 hb (by omega)
/-- A number of 4 bytes. -/
def val4 (l : List Nat) : Nat := l.getD 0 0 * 16777216 + l.getD 1 0 * 65536 + l.getD 2 0 * 256 + l.getD 3 0
theorem getD_lt {l : List Nat} (h : ∀ b ∈ l, b < 256) (j : Nat) : l.getD j 0 < 256 := by
  rw [List.getD_eq_getElem?_getD]
  cases hj : l[j]? with
  | none => simp
  | some x => exact h x (List.mem_of_getElem? hj)
theorem or4 (b0 b1 b2 b3 : Nat) (h0 : b0 < 256) (h1 : b1 < 256) (h2 : b2 < 256) (h3 : b3 < 256) :
    Go.bits .or .i64 (Go.bits .or .i64 (Go.bits .or .i64 ((b0 : Int) * 16777216) ((b1 : Int) * 65536)) ((b2 : Int) * 256)) (b3 : Int) = ((b0 * 16777216 + b1 * 65536 + b2 * 256 + b3 : Nat) : Int) := by
  have e1 : Go.bits .or .i64 ((b0 : Int) * 16777216) ((b1 : Int) * 65536) = (((b0 * 256 + b1) * 65536 : Nat) : Int) := by
    have := or_24 b0 (b1 * 65536) (by omega) (by omega)
    rw [show ((b1 * 65536 : Nat) : Int) = (b1 : Int) * 65536 by omega] at this
    rw [this]; omega
  have e2 : Go.bits .or .i64 (((b0 * 256 + b1) * 65536 : Nat) : Int) ((b2 : Int) * 256) = ((((b0 * 256 + b1) * 256 + b2) * 256 : Nat) : Int) := by
    have := or_16 (b0 * 256 + b1) (b2 * 256) (by omega) (by omega)
    rw [show ((b2 * 256 : Nat) : Int) = (b2 : Int) * 256 by omega, show (((b0 * 256 + b1 : Nat) : Int) * 65536) = (((b0 * 256 + b1) * 65536 : Nat) : Int) by omega] at this
    rw [this]; omega
  have e3 := or_8 ((b0 * 256 + b1) * 256 + b2) b3 h3 (by omega)
  rw [e1, e2]
  rw [show ((((b0 * 256 + b1) * 256 + b2 : Nat) : Int) * 256) = ((((b0 * 256 + b1) * 256 + b2) * 256 : Nat) : Int) by omega] at e3
  rw [e3]; omega

set_option maxHeartbeats 800000 in
theorem value_any (A : Option Addr) (n c B : Nat) (l : List Nat) (w : World) (hr : Rd w B 1 A n (bytesV l)) (hn : n = l.length) (h4 : 4 ≤ n) (hl : ∀ b ∈ l, b < 256) :
    Calls Try.prog 96 #[.slice A n c] w fun e w' => e = .returned (.int .i64 (val4 l)) ∧ ∃ m, w.drewN m = w' := by
  have h0 := hr.at1 (k := 0) (by omega) (bytesV_get l 0 (by omega))
  have h1 := hr.at1 (k := 1) (by omega) (bytesV_get l 1 (by omega))
  have h2 := hr.at1 (k := 2) (by omega) (bytesV_get l 2 (by omega))
  have h3 := hr.at1 (k := 3) (by omega) (bytesV_get l 3 (by omega))
  obtain ⟨b, o, rfl, _, c0⟩ := h0
  obtain ⟨b', o', he, _, c1⟩ := h1
  cases he
  obtain ⟨b', o', he, _, c2⟩ := h2
  cases he
  obtain ⟨b', o', he, _, c3⟩ := h3
  cases he
  have l0 := getD_lt hl 0
  have l1 := getD_lt hl 1
  have l2 := getD_lt hl 2
  have l3 := getD_lt hl 3
  have HO := Lib.hid (or4 _ _ _ _ l0 l1 l2 l3)
  have HV : Hid (val4 l = l.getD 0 0 * 16777216 + l.getD 1 0 * 65536 + l.getD 2 0 * 256 + l.getD 3 0) := Lib.hid rfl
  generalize l.getD 0 0 = b0 at *
  generalize l.getD 1 0 = b1 at *
  generalize l.getD 2 0 = b2 at *
  generalize l.getD 3 0 = b3 at *
  rw [Nat.add_zero] at c0
  have i0 : 0 < n := by omega
  have i1 : (1 : Int) < n := by omega
  have i2 : (2 : Int) < n := by omega
  have i3 : (3 : Int) < n := by omega
  have i1' : 1 < n := by omega
  have i2' : 2 < n := by omega
  have i3' : 3 < n := by omega
  clear hr hn hl
  go_enter Try.func96, Try.ntmps96
  go_wp2_with fail
  go_quiet (fail)
  go_wp2_with fail
  go_ret
  exact ⟨by rw [HV.out, ← HO.out]; rfl, _, rfl⟩

set_option maxHeartbeats 800000 in
theorem whole_any (A : Option Addr) (n c B : Nat) (l : List Nat) (w : World) (hr : Rd w B 1 A n (bytesV l)) (hn : n = l.length) (h4 : n ≤ 4) (hl : ∀ b ∈ l, b < 256) :
    Calls Try.prog 80 #[.slice A n c] w fun e w' => e = .returned (.int .i64 (wholeB l)) ∧ w = w' := by
  have HR := Lib.hid hr
  have HN := Lib.hid hn
  have HL := Lib.hid hl
  clear hr hn hl
  go_enter Try.func80, Try.ntmps80
  go_wp2_with fail
  go_loopw [3, 5, 8] (fun t _ i wr => ∃ k T : Nat, k ≤ n ∧ i = .int .i64 k ∧ t = .int .i64 T ∧ Hid (T = wholeB (l.take k) ∧ T < 256 ^ k) ∧ wr = w) (fun _ _ i _ => n - (intOf i).toNat)
  case atStart => exact ⟨0, 0, Nat.zero_le _, rfl, rfl, Lib.hid ⟨by simp [wholeB], by decide⟩, rfl⟩
  case round =>
    obtain ⟨k, T, hk, rfl, rfl, HT, rfl⟩ := hrel
    by_cases hlt : k < n
    · have hx := bytesV_get l k (by have := HN.out; omega)
      have hx' : l[k]? = some (l.getD k 0) := by simp [List.getD, List.getElem?_eq_getElem (show k < l.length by have := HN.out; omega)]
      have hx8 := getD_lt HL.out k
      obtain ⟨b, o, rfl, _, c0⟩ := HR.out.at1 hlt hx
      generalize l.getD k 0 = x at *
      have hT : T < 4294967296 := by
        have h1 := HT.out.2
        have h2 : 256 ^ k ≤ 256 ^ 4 := Nat.pow_le_pow_right (by omega) (by omega)
        have h3 : 256 ^ 4 = 4294967296 := rfl
        omega
      have HX := Lib.hid hx'
      clear hx hx'
      go_wp2_with fail
      go_roundw
      case rel => exact ⟨k + 1, 256 * T + x, by omega, by go_num, by go_num, Lib.hid ⟨by rw [List.take_add_one, HX.out, wholeB, List.foldl_append, HT.out.1]; rfl, by rw [Nat.pow_succ]; have := HT.out.2; omega⟩, by first | rfl | trivial⟩
      case measure => simp [intOf]; omega
    · obtain rfl : k = n := by omega
      go_wp2_with fail
      go_ret
      refine ⟨?_, rfl⟩
      rw [HT.out.1, List.take_of_length_le (by rw [← HN.out]; omega)]
      rfl

end Go.Proofs.Ytlgcdcjfobfoiaa
