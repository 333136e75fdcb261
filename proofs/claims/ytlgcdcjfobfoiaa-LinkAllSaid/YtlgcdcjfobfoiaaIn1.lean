/-
  The contracts of input.Check, Frame, frames and their references; of bytes.Equal; of the writer's Bytes; of slices.Clone at bits, Bits.Add and Bits.Bytes.
  Conditions: numbers that fit their kinds, sizes within the reach.
-/
import Derived.Test.YtlgcdcjfobfoiaaPut
import Derived.Shelf.Bytes.SlEqualAll
namespace Go.Proofs.Ytlgcdcjfobfoiaa
open Go.RowKit

structure Inp where
  k : Int
  x : Int
  y : Int
  deriving DecidableEq
def Inp.cs (i : Inp) : List Value := [.int .i64 i.k, .int .i64 i.x, .int .i64 i.y]
def Inp.wf (i : Inp) : Prop := (Lit.int .i64 i.k).wf = true ∧ (Lit.int .i64 i.x).wf = true ∧ (Lit.int .i64 i.y).wf = true
def inCs (l : List Inp) : List Value := l.flatMap Inp.cs
def Inp.bad (i : Inp) : Prop := i.k < 0 ∨ 255 < i.k ∨ i.x < -128 ∨ 127 < i.x ∨ i.y < -128 ∨ 127 < i.y
instance (i : Inp) : Decidable i.bad := by unfold Inp.bad; infer_instance
def errI (i : Inp) : Int := if i.bad then 1 else 0
def errF (p : Int) (l : List Inp) : Int := if p < 1 ∨ 8 < p ∨ (l.length : Int) ≠ p ∨ ∃ i ∈ l, i.bad then 1 else 0

theorem inCs_length (l : List Inp) : (inCs l).length = l.length * 3 := by
  induction l with
  | nil => rfl
  | cons a l ih => simp only [inCs, List.flatMap_cons, List.length_append, List.length_cons] at *; rw [ih]; simp [Inp.cs]; omega
theorem inCs_get (l : List Inp) (j : Nat) (i : Inp) (h : l[j]? = some i) (m : Nat) (hm : m < 3) : (inCs l)[j * 3 + m]? = i.cs[m]? := by
  induction l generalizing j with
  | nil => simp at h
  | cons a l ih =>
    cases j with
    | zero =>
      simp at h; subst h
      simp only [inCs, List.flatMap_cons]
      rw [List.getElem?_append_left (by simp [Inp.cs]; omega)]; simp
    | succ j =>
      simp only [inCs, List.flatMap_cons] at *
      rw [List.getElem?_append_right (by simp [Inp.cs]; omega)]
      have := ih j (by simpa using h)
      rw [← this]; congr 1; simp [Inp.cs]; omega
theorem inCs_append (l k : List Inp) : inCs (l ++ k) = inCs l ++ inCs k := by simp [inCs]
theorem inCs_one (l : List Inp) : ∀ u ∈ inCs l, u.oneCell' = true := by
  intro u hu
  simp only [inCs, List.mem_flatMap, Inp.cs] at hu
  obtain ⟨i, _, h⟩ := hu
  simp at h
  rcases h with rfl | rfl | rfl <;> rfl

/-- The three cells of input k. -/
theorem Rd.inp {w w' : World} {B B' n k : Nat} {A : Option Addr} {l : List Inp} (h : Rd w B 3 A n (inCs l)) (hn : n = l.length) (hk : k < n) (hb : Below B' w w') (hB : B ≤ B') :
    ∃ b o i, A = some ⟨b, o, none⟩ ∧ b < B ∧ l[k]? = some i ∧ w'.cell? ⟨b, o + k * 3, none⟩ = some (.int .i64 i.k) ∧ w'.cell? ⟨b, o + k * 3 + 1, none⟩ = some (.int .i64 i.x) ∧ w'.cell? ⟨b, o + k * 3 + 2, none⟩ = some (.int .i64 i.y) := by
  obtain ⟨b, o, rfl, hbB, hc⟩ := h.2 (by omega)
  have hi : l[k]? = some (l[k]'(by omega)) := List.getElem?_eq_getElem (by omega)
  refine ⟨b, o, _, rfl, hbB, hi, ?_, ?_, ?_⟩
  · exact (hb.cell (p := ⟨b, o + k * 3, none⟩) (by show b < B'; omega)).trans (hc (k * 3 + 0) _ (inCs_get l k _ hi 0 (by omega)))
  · exact (hb.cell (p := ⟨b, o + k * 3 + 1, none⟩) (by show b < B'; omega)).trans (hc (k * 3 + 1) _ (inCs_get l k _ hi 1 (by omega)))
  · exact (hb.cell (p := ⟨b, o + k * 3 + 2, none⟩) (by show b < B'; omega)).trans (hc (k * 3 + 2) _ (inCs_get l k _ hi 2 (by omega)))

set_option maxHeartbeats 400000 in
theorem check_any (i : Inp) (w : World) :
    Calls Try.prog 15 #[.agg #[.int .i64 i.k, .int .i64 i.x, .int .i64 i.y]] w fun e w' => e = .returned (.int .i64 (errI i)) ∧ Below w.heap.size w w' := by
  obtain ⟨k, x, y⟩ := i
  go_enter Try.func15, Try.ntmps15
  go_wp2
  all_goals go_ret
  all_goals refine ⟨ret_i ?_, (Below.refl _ _).alloc (Nat.le_refl _) _⟩
  all_goals unfold errI
  all_goals first | (rw [if_pos (by unfold Inp.bad; simp only []; omega)]) | (rw [if_neg (by unfold Inp.bad; simp only []; omega)])

theorem and255 (k : Int) (h0 : 0 ≤ k) (h1 : k < 9223372036854775808) : Go.bits .and .i64 k 255 = k % 256 := by
  obtain ⟨n, rfl⟩ := Int.eq_ofNat_of_zero_le h0
  have hn : n < 9223372036854775808 := by omega
  have hx : n &&& 255 < 2 ^ 63 := Nat.and_lt_two_pow _ (by omega)
  show IntKind.i64.wrap ((BitVec.ofInt 64 (n : Int) &&& BitVec.ofInt 64 255).toNat : Int) = _
  have e1 : (BitVec.ofInt 64 (n : Int)).toNat = n := by rw [BitVec.ofInt_natCast, BitVec.toNat_ofNat]; exact Nat.mod_eq_of_lt (by omega)
  rw [BitVec.toNat_and, e1, show (BitVec.ofInt 64 255).toNat = 255 from rfl, nat_mask8, IntKind.wrap_i64]
  omega
theorem and255_neg (k : Int) : 0 ≤ Go.bits .and .i64 k 255 ∧ Go.bits .and .i64 k 255 ≤ 255 := by
  show 0 ≤ IntKind.i64.wrap ((BitVec.ofInt 64 k &&& BitVec.ofInt 64 255).toNat : Int) ∧ IntKind.i64.wrap ((BitVec.ofInt 64 k &&& BitVec.ofInt 64 255).toNat : Int) ≤ 255
  rw [BitVec.toNat_and, show (BitVec.ofInt 64 255).toNat = 255 from rfl, nat_mask8, IntKind.wrap_i64]
  omega
theorem keys_ok (k : Int) : (k = Go.bits .and .i64 k 255) ↔ (0 ≤ k ∧ k ≤ 255) := by
  have hb := and255_neg k
  constructor
  · intro e; omega
  · intro ⟨h0, h1⟩
    rw [and255 k h0 (by omega)]; omega
theorem i8_ok (x : Int) : ((x = IntKind.i8.wrap x) ↔ (-128 ≤ x ∧ x ≤ 127)) ∧ IntKind.i64.wrap (IntKind.i8.wrap x) = IntKind.i8.wrap x := by
  have h : -128 ≤ IntKind.i8.wrap x ∧ IntKind.i8.wrap x ≤ 127 := by
    simp only [IntKind.wrap, IntKind.bits, IntKind.signed]; simp; omega
  refine ⟨⟨fun e => by omega, fun e => (IntWalk.i8_in x e).symm⟩, IntWalk.i64_in _ (by omega)⟩

set_option maxHeartbeats 400000 in
theorem fault_any (i : Inp) (w : World) :
    Calls Try.prog 16 #[.agg #[.int .i64 i.k, .int .i64 i.x, .int .i64 i.y]] w fun e w' => e = .returned (.int .i64 (errI i)) ∧ Below w.heap.size w w' := by
  obtain ⟨k, x, y⟩ := i
  have HK := Lib.hid (keys_ok k)
  have HX := i8_ok x
  have HY := i8_ok y
  generalize hK : Go.bits .and .i64 k 255 = K at HK
  generalize hX : IntKind.i8.wrap x = X at HX
  generalize hY : IntKind.i8.wrap y = Y at HY
  obtain ⟨HX1, hX1⟩ := HX
  obtain ⟨HY1, hY1⟩ := HY
  have HX := Lib.hid HX1
  have HY := Lib.hid HY1
  clear HX1 HY1
  go_enter Try.func16, Try.ntmps16
  go_wp2
  all_goals go_ret
  all_goals refine ⟨ret_i ?_, (Below.refl _ _).alloc (Nat.le_refl _) _⟩
  all_goals (have h1 := HK.out; have h2 := HX.out; have h3 := HY.out; clear hK hX hY HK HX HY hX1 hY1; unfold errI; try simp only [bne_iff_ne, bne_eq_false_iff_eq, ne_eq] at *)
  all_goals first | (rw [if_pos (by unfold Inp.bad; simp only []; omega)]) | (rw [if_neg (by unfold Inp.bad; simp only []; omega)])

theorem errF_1 {p : Int} {l : List Inp} (h : p < 1 ∨ 8 < p ∨ (l.length : Int) ≠ p) : errF p l = 1 := if_pos (by rcases h with h | h | h <;> simp [h])
theorem errF_bad {p : Int} {l : List Inp} {i : Inp} {k : Nat} (hi : l[k]? = some i) (hb : i.bad) : errF p l = 1 :=
  if_pos (.inr (.inr (.inr ⟨i, List.mem_of_getElem? hi, hb⟩)))
theorem errF_0 {p : Int} {l : List Inp} (h1 : 1 ≤ p) (h2 : p ≤ 8) (h3 : (l.length : Int) = p) (h : ∀ i ∈ l, ¬ i.bad) : errF p l = 0 :=
  if_neg (by rintro (h | h | h | ⟨i, hi, hb⟩); omega; omega; exact h h3; exact h _ ‹_› ‹_›)
theorem errI_bad {i : Inp} (h : (errI i != 0) = true) : i.bad ∧ errI i = 1 := by
  unfold errI at *; split at h <;> simp_all
theorem errI_ok {i : Inp} (h : (errI i != 0) = false) : ¬ i.bad := by
  unfold errI at *; split at h <;> simp_all
theorem take_good {l : List Inp} {k : Nat} {i : Inp} (hi : l[k]? = some i) (hg : ∀ i ∈ l.take k, ¬ i.bad) (hb : ¬ i.bad) : ∀ i ∈ l.take (k + 1), ¬ i.bad := by
  intro j hj
  rw [List.take_add_one, hi] at hj
  simp at hj
  rcases hj with hj | rfl
  · exact hg j hj
  · exact hb

set_option maxHeartbeats 800000 in
theorem frame_any (p : Int) (A : Option Addr) (n c B : Nat) (l : List Inp) (w : World) (hn : n = l.length) (hm : n ≤ 9223372036854775807)
   (hr : Rd w B 3 A n (inCs l)) (hB : B ≤ w.heap.size) :
    Calls Try.prog 18 #[.int .i64 p, .slice A n c] w fun e w' => e = .returned (.int .i64 (errF p l)) ∧ Below w.heap.size w w' := by
  by_cases h0 : p < 1 ∨ 8 < p ∨ (n : Int) ≠ p
  · have he := errF_1 (p := p) (l := l) (by rw [← hn]; exact h0)
    have HE := Lib.hid he
    clear he hn hr
    by_cases h1 : p < 1
    · go_enter Try.func18, Try.ntmps18
      go_wp2_with fail
      go_ret
      exact ⟨ret_i HE.out.symm, Below.refl _ _⟩
    · by_cases h2 : 8 < p
      · go_enter Try.func18, Try.ntmps18
        go_wp2_with fail
        go_ret
        exact ⟨ret_i HE.out.symm, Below.refl _ _⟩
      · have h3 : ((n : Int) != p) = true := by simp; omega
        clear h0
        go_enter Try.func18, Try.ntmps18
        go_wp2_with fail
        go_ret
        exact ⟨ret_i HE.out.symm, Below.refl _ _⟩
  · have h1 : 1 ≤ p := by omega
    have h2 : p ≤ 8 := by omega
    obtain rfl : p = (n : Int) := by omega
    have h5 : (((n:Int) != (n:Int))) = false := by simp
    clear h0
    have HN := Lib.hid hn
    have HR := Lib.hid hr
    clear hn hr
    go_enter Try.func18, Try.ntmps18
    go_wp2_with fail
    go_loopw [22] (fun i wr => ∃ k : Nat, k ≤ n ∧ i = .int .i64 k ∧ (∀ i ∈ l.take k, ¬ i.bad) ∧ Below w.heap.size w wr) (fun i _ => n - (intOf i).toNat)
    case atStart => exact ⟨0, Nat.zero_le _, rfl, by simp, Below.refl _ _⟩
    case round =>
      obtain ⟨k, hk, rfl, hg, hb⟩ := hrel
      by_cases hlt : k < n
      · obtain ⟨b, o, i, rfl, hbB, hi, c0, c1, c2⟩ := HR.out.inp HN.out hlt hb hB
        have HI := Lib.hid hi
        have HG := Lib.hid hg
        clear hi hg
        have hsz := hb.size
        go_wp2_with (go_at_call 15; refine (check_any _ _).mono ?_; rintro e w1 ⟨rfl, hb1⟩)
        · go_ret
          have ht := errI_bad ‹_›
          refine ⟨ret_i (by rw [ht.2, errF_bad HI.out ht.1]), (((hb.alloc hsz _)).trans (hb1.mono (by simp; omega)))⟩
        · go_round
          case measure => simp [intOf]; omega
          case rel =>
            exact ⟨k + 1, by omega, by go_num, take_good HI.out HG.out (errI_ok ‹_›), (((hb.alloc hsz _)).trans (hb1.mono (by simp; omega)))⟩
      · go_wp2
        go_ret
        obtain rfl : k = n := by omega
        have hlen := HN.out
        exact ⟨ret_i (errF_0 (by omega) (by omega) (by omega) (by rw [List.take_of_length_le (by omega)] at hg; exact hg)).symm, hb⟩

set_option maxHeartbeats 800000 in
theorem framefault_any (p : Int) (A : Option Addr) (n c B : Nat) (l : List Inp) (w : World) (hn : n = l.length) (hm : n ≤ 9223372036854775807)
   (hr : Rd w B 3 A n (inCs l)) (hB : B ≤ w.heap.size) :
    Calls Try.prog 19 #[.int .i64 p, .slice A n c] w fun e w' => e = .returned (.int .i64 (errF p l)) ∧ Below w.heap.size w w' := by
  by_cases h0 : p < 1 ∨ 8 < p ∨ (n : Int) ≠ p
  · have he := errF_1 (p := p) (l := l) (by rw [← hn]; exact h0)
    have HE := Lib.hid he
    clear he hn hr
    by_cases h1 : p < 1
    · go_enter Try.func19, Try.ntmps19
      go_wp2_with fail
      go_ret
      exact ⟨ret_i HE.out.symm, Below.refl _ _⟩
    · by_cases h2 : 8 < p
      · go_enter Try.func19, Try.ntmps19
        go_wp2_with fail
        go_ret
        exact ⟨ret_i HE.out.symm, Below.refl _ _⟩
      · have h3 : ((n : Int) != p) = true := by simp; omega
        clear h0
        go_enter Try.func19, Try.ntmps19
        go_wp2_with fail
        go_ret
        exact ⟨ret_i HE.out.symm, Below.refl _ _⟩
  · have h1 : 1 ≤ p := by omega
    have h2 : p ≤ 8 := by omega
    obtain rfl : p = (n : Int) := by omega
    have h5 : (((n:Int) != (n:Int))) = false := by simp
    clear h0
    have HN := Lib.hid hn
    have HR := Lib.hid hr
    clear hn hr
    go_enter Try.func19, Try.ntmps19
    go_wp2_with fail
    go_loopw [21] (fun i wr => ∃ k : Nat, k ≤ n ∧ i = .int .i64 k ∧ (∀ i ∈ l.take k, ¬ i.bad) ∧ Below w.heap.size w wr) (fun i _ => n - (intOf i).toNat)
    case atStart => exact ⟨0, Nat.zero_le _, rfl, by simp, Below.refl _ _⟩
    case round =>
      obtain ⟨k, hk, rfl, hg, hb⟩ := hrel
      by_cases hlt : k < n
      · obtain ⟨b, o, i, rfl, hbB, hi, c0, c1, c2⟩ := HR.out.inp HN.out hlt hb hB
        have HI := Lib.hid hi
        have HG := Lib.hid hg
        clear hi hg
        have hsz := hb.size
        go_wp2_with (go_at_call 16; refine (fault_any _ _).mono ?_; rintro e w1 ⟨rfl, hb1⟩)
        · go_ret
          have ht := errI_bad ‹_›
          refine ⟨ret_i (by rw [errF_bad HI.out ht.1]), (((hb.alloc hsz _)).trans (hb1.mono (by simp; omega)))⟩
        · go_round
          case measure => simp [intOf]; omega
          case rel =>
            exact ⟨k + 1, by omega, by go_num, take_good HI.out HG.out (errI_ok ‹_›), (((hb.alloc hsz _)).trans (hb1.mono (by simp; omega)))⟩
      · go_wp2
        go_ret
        obtain rfl : k = n := by omega
        have hlen := HN.out
        exact ⟨ret_i (errF_0 (by omega) (by omega) (by omega) (by rw [List.take_of_length_le (by omega)] at hg; exact hg)).symm, hb⟩
end Go.Proofs.Ytlgcdcjfobfoiaa
