/-
  The contracts of input.Pack and of the reference's Packed. Conditions: sizes within the reach.
-/
import Derived.Test.YtlgcdcjfobfoiaaIn3
namespace Go.Proofs.Ytlgcdcjfobfoiaa
open Go.RowKit
set_option maxRecDepth 100000

theorem own_mono {w : World} {base base' : Nat} {e : TypeId} {size : Nat} {v : Value} {n : Nat} {xs : List Value} (h : w.ownsRow base e size v n xs) (hb : base' ≤ base) : w.ownsRow base' e size v n xs :=
  ⟨h.1, h.2.imp id fun ⟨g, cap, cur, a, b, r⟩ => ⟨g, cap, cur, a, by omega, r⟩⟩

theorem inp_eql (i j : Inp) (w : World) : (binOp .eql 24 (.agg #[.int .i64 i.k, .int .i64 i.x, .int .i64 i.y]) (.agg #[.int .i64 j.k, .int .i64 j.x, .int .i64 j.y])).run Try.prog w = .ok (.bool (decide (i = j))) w := by
  obtain ⟨a, b, c⟩ := i
  obtain ⟨d, e, f⟩ := j
  go_simp
  repeat' (split <;> simp_all)

/-- The bits of one player's input relative to the one before. -/
def oneBits (y x : Inp) : List Bool :=
  if x = y then [false] else
    [true] ++ bitsOf (x.k.toNat ^^^ y.k.toNat) 8 ++ (if x.x = y.x ∧ x.y = y.y then [false] else [true] ++ bitsOf (x.x + 128).toNat 8 ++ bitsOf (x.y + 128).toNat 8)
def packBits (b n : List Inp) : List Bool := (b.zip n).flatMap fun p => oneBits p.1 p.2
theorem oneBits_le (y x : Inp) : (oneBits y x).length ≤ 26 := by
  unfold oneBits; split
  · simp
  · split <;> simp [bitsOf_length]
theorem packBits_snoc {b n : List Inp} {k : Nat} {y x : Inp} (hy : b[k]? = some y) (hx : n[k]? = some x) : packBits (b.take (k + 1)) (n.take (k + 1)) = packBits (b.take k) (n.take k) ++ oneBits y x := by
  unfold packBits
  rw [List.take_add_one, List.take_add_one, hy, hx]
  have h1 : k < b.length := by rcases Nat.lt_or_ge k b.length with h | h; exact h; rw [List.getElem?_eq_none h] at hy; cases hy
  have h2 : k < n.length := by rcases Nat.lt_or_ge k n.length with h | h; exact h; rw [List.getElem?_eq_none h] at hx; cases hx
  rw [show (some y).toList = [y] from rfl, show (some x).toList = [x] from rfl, List.zip_append (by simp; omega)]
  simp
theorem packBits_le (b n : List Inp) : (packBits b n).length ≤ 26 * n.length := by
  unfold packBits
  induction n generalizing b with
  | nil => simp
  | cons x n ih =>
    cases b with
    | nil => simp
    | cons y b =>
      have := ih b
      have h1 := oneBits_le y x
      simp only [List.zip_cons_cons, List.flatMap_cons, List.length_append, List.length_cons]
      omega

theorem i64_xor (a b : Nat) (ha : a < 256) (hb : b < 256) : Go.bits .xor .i64 (a : Int) (b : Int) = ((a ^^^ b : Nat) : Int) ∧ a ^^^ b < 256 := by
  have hx : a ^^^ b < 2 ^ 8 := Nat.xor_lt_two_pow (by omega) (by omega)
  refine ⟨?_, by omega⟩
  show IntKind.i64.wrap ((BitVec.ofInt 64 (a : Int) ^^^ BitVec.ofInt 64 (b : Int)).toNat : Int) = _
  have e : ∀ n : Nat, n < 256 → (BitVec.ofInt 64 (n : Int)).toNat = n := fun n hn => by rw [BitVec.ofInt_natCast, BitVec.toNat_ofNat]; exact Nat.mod_eq_of_lt (by omega)
  rw [BitVec.toNat_xor, e a ha, e b hb, IntKind.wrap_i64]
  omega

/-- A slice in new memory and an error. -/
def RetS2 (w0 : World) (t : TypeId) (size n : Nat) (xs : List Value) (err : Int) (e : Ending) (w' : World) : Prop :=
  ∃ A c, e = .returned (.tuple #[.slice A n c, .int .i64 err]) ∧ w'.ownsRow w0.heap.size t size (.slice A n c) n xs ∧ Below w0.heap.size w0 w'

/-- Put at numbers. -/
theorem put_i {g base : Nat} {V N : Int} {bits : List Bool} {w : World} (h0 : 0 ≤ V) (hN0 : 0 ≤ N) (hN : N < 64) (hv : V < 2 ^ N.toNat) (hs : (bits.length : Int) + N ≤ 524288) (hst : WrSt w base g bits) :
    Calls Try.prog 64 #[.pointer (some ⟨g, 0, none⟩), .int .u64 V, .int .i64 N] w fun e w' => e = .returned (.int .i64 0) ∧ WrSt w' base g (bits ++ bitsOf V.toNat N.toNat) ∧ Kp base 5 g w w' := by
  obtain ⟨v, rfl⟩ := Int.eq_ofNat_of_zero_le h0
  obtain ⟨n, rfl⟩ := Int.eq_ofNat_of_zero_le hN0
  exact put_any g base v n bits w (by exact_mod_cast hv) (by omega) (by omega) hst

theorem WrSt.keep {w w' : World} {base g : Nat} {bits : List Bool} (h : WrSt w base g bits) (hb : Below w.heap.size w w') : WrSt w' base g bits := by
  obtain ⟨v, h1, h2, h3⟩ := h
  refine ⟨v, h1.below hb h1.lt, ?_, by have := hb.size; omega⟩
  exact h2.kept (row := none) ⟨hb.os, hb.tape, hb.output, hb.size, fun k hk _ => hb.block k hk⟩ (by cases hv : v.ownBlock <;> simp)

/-- Three cells of a boxed input. -/
theorem Bk.inp {w : World} {g : Nat} {i : Inp} (h : Bk w g 24 #[.int .i64 i.k, .int .i64 i.x, .int .i64 i.y]) :
    w.cell? ⟨g, 0, none⟩ = some (.int .i64 i.k) ∧ w.cell? ⟨g, 1, none⟩ = some (.int .i64 i.x) ∧ w.cell? ⟨g, 2, none⟩ = some (.int .i64 i.y) := ⟨h.cell 0, h.cell 1, h.cell 2⟩

set_option maxHeartbeats 1600000 in
theorem pack_bad (A A' : Option Addr) (n c n' c' B : Nat) (l l' : List Inp) (w : World) (hn : n = l.length) (hn' : n' = l'.length) (hm : n ≤ 9223372036854775807) (hm' : n' ≤ 9223372036854775807)
   (hr : Rd w B 3 A n (inCs l)) (hr' : Rd w B 3 A' n' (inCs l')) (hB : B ≤ w.heap.size) (he : errFs l l' ≠ 0) :
    Calls Try.prog 20 #[.slice A n c, .slice A' n' c'] w (RetS2 w 5 1 0 [] (errFs l l')) := by
  have hf := frames_any A A' n c n' c' B l l' w hn hn' hm hm' hr hr' hB
  have HF := Lib.hid hf
  have t0 : (errFs l l' != 0) = true := by simp [he]
  clear hf hn hn' hr hr' he
  go_enter Try.func20, Try.ntmps20
  go_wp2_with fail
  refine HF.out.mono ?_
  rintro e w1 ⟨rfl, hb1⟩
  go_wp2_with fail
  go_ret2
  exact ⟨none, 0, by simp, World.ownsRow_nil _ _ _ _, hb1⟩

set_option maxHeartbeats 3200000 in
theorem pack_good (A A' : Option Addr) (n c n' c' B : Nat) (l l' : List Inp) (w : World) (hn : n = l.length) (hn' : n' = l'.length) (hm : n ≤ 8) (hnn : n' = n)
   (hr : Rd w B 3 A n (inCs l)) (hr' : Rd w B 3 A' n' (inCs l')) (hB : B ≤ w.heap.size) (he : errFs l l' = 0) (hg : ∀ i ∈ l, ¬ i.bad) (hg' : ∀ i ∈ l', ¬ i.bad) :
    Calls Try.prog 20 #[.slice A n c, .slice A' n' c'] w (RetS2 w 5 1 (packB (packBits l l')).length (bytesV (packB (packBits l l'))) 0) := by
  subst hnn
  have hf := frames_any A A' n' c n' c' B l l' w hn hn' (by omega) (by omega) hr hr' hB
  rw [he] at hf
  have HF := Lib.hid hf
  have HR := Lib.hid hr
  have HR' := Lib.hid hr'
  have HN := Lib.hid hn
  have HN' := Lib.hid hn'
  have HG := Lib.hid hg
  have HG' := Lib.hid hg'
  clear hf hn hn' hr hr' he hg hg'
  go_enter Try.func20, Try.ntmps20
  go_wp2_with fail
  refine HF.out.mono ?_
  rintro e w1 ⟨rfl, hb1⟩
  have hsz1 := hb1.size
  go_wp2_with fail
  have hst0 : WrSt (w1.alloc (.cells #[.slice none 0 0, .int .i64 0] 102)) w.heap.size w1.heap.size (packBits (l.take 0) (l'.take 0)) :=
    ⟨.slice none 0 0, Bk.new _ _ _, World.ownsRow_nil _ _ _ _, by simp; omega⟩
  have hbw := hb1.alloc hsz1 (.cells #[.slice none 0 0, .int .i64 0] 102)
  obtain ⟨g, hgdef⟩ : ∃ g, g = w1.heap.size := ⟨_, rfl⟩
  rw [← hgdef] at hst0 ⊢
  generalize w1.alloc (.cells #[.slice none 0 0, .int .i64 0] 102) = w2 at *
  have hgB : w.heap.size ≤ g := by omega
  clear hgdef hb1 hsz1 HF
  go_loopw [21] (fun i wr => ∃ k : Nat, k ≤ n' ∧ i = .int .i64 k ∧ WrSt wr w.heap.size g (packBits (l.take k) (l'.take k)) ∧ Below w.heap.size w wr) (fun i _ => n' - (intOf i).toNat)
  case atStart => exact ⟨0, Nat.zero_le _, rfl, hst0, hbw⟩
  case round =>
    obtain ⟨k, hk, rfl, hst, hb⟩ := hrel
    have hsz := hb.size
    by_cases hlt : k < n'
    · obtain ⟨b', o', x, rfl, hbB', hx, x0, x1, x2⟩ := HR'.out.inp HN'.out hlt hb hB
      obtain ⟨b, o, y, rfl, hbB, hy, y0, y1, y2⟩ := HR.out.inp HN.out hlt hb hB
      have lb : b < wr.heap.size := by omega
      have lb' : b' < wr.heap.size := by omega
      have hgx := HG'.out x (List.mem_of_getElem? hx)
      have hgy := HG.out y (List.mem_of_getElem? hy)
      have hsn := packBits_snoc hy hx
      have hle := packBits_le (l.take k) (l'.take k)
      have htl : (l'.take k).length ≤ k := List.length_take_le _ _
      have hbits : (packBits (l.take k) (l'.take k)).length ≤ 208 := by omega
      simp only [Inp.bad, not_or, Int.not_lt] at hgx hgy
      obtain ⟨gx1, gx2, gx3, gx4, gx5, gx6⟩ := hgx
      obtain ⟨gy1, gy2, gy3, gy4, gy5, gy6⟩ := hgy
      generalize packBits (l.take k) (l'.take k) = bits at *
      have hone : oneBits y x = if x = y then [false] else [true] ++ bitsOf (x.k.toNat ^^^ y.k.toNat) 8 ++ (if x.x = y.x ∧ x.y = y.y then [false] else [true] ++ bitsOf (x.x + 128).toNat 8 ++ bitsOf (x.y + 128).toNat 8) := rfl
      have HS := Lib.hid hsn
      have HO := Lib.hid hone
      have heq := inp_eql x y
      have hX : Bk ((wr.alloc (.cells #[.int .i64 x.k, .int .i64 x.x, .int .i64 x.y] 24)).alloc (.cells #[.int .i64 y.k, .int .i64 y.x, .int .i64 y.y] 24)) wr.heap.size 24 #[.int .i64 x.k, .int .i64 x.x, .int .i64 x.y] := (Bk.new _ _ _).alloc _
      have hY : Bk ((wr.alloc (.cells #[.int .i64 x.k, .int .i64 x.x, .int .i64 x.y] 24)).alloc (.cells #[.int .i64 y.k, .int .i64 y.x, .int .i64 y.y] 24)) (wr.heap.size + 1) 24 #[.int .i64 y.k, .int .i64 y.x, .int .i64 y.y] := by
        have := Bk.new (wr.alloc (.cells #[.int .i64 x.k, .int .i64 x.x, .int .i64 x.y] 24)) 24 #[.int .i64 y.k, .int .i64 y.x, .int .i64 y.y]
        simpa using this
      have hbA : Below wr.heap.size wr ((wr.alloc (.cells #[.int .i64 x.k, .int .i64 x.x, .int .i64 x.y] 24)).alloc (.cells #[.int .i64 y.k, .int .i64 y.x, .int .i64 y.y] 24)) := ((Below.refl _ _).alloc (Nat.le_refl _) _).alloc (by simp) _
      have hst' := hst.keep hbA
      have hbB2 := hb.trans (hbA.mono hsz)
      have hglt : g < wr.heap.size := by obtain ⟨_, h1, _⟩ := hst; exact h1.lt
      have hne1 : wr.heap.size ≠ g := by omega
      have hne2 : wr.heap.size + 1 ≠ g := by omega
      clear hsn hone hle htl hx hy hst hbA
      by_cases h1 : x = y
      · have HH := Lib.hid h1
        have heq' : ∀ w, (binOp .eql 24 (.agg #[.int .i64 x.k, .int .i64 x.x, .int .i64 x.y]) (.agg #[.int .i64 y.k, .int .i64 y.x, .int .i64 y.y])).run Try.prog w = .ok (.bool true) w := by simpa [h1] using heq
        clear heq h1
        go_wp2_with fail
        refine (put_i (V := 0) (N := 1) (by decide) (by decide) (by decide) (by decide) (by omega) hst').mono ?_
        rintro e w3 ⟨rfl, hst3, hk3⟩
        go_wp2_with fail
        go_roundw
        case measure => simp [intOf]; omega
        case rel =>
          refine ⟨k + 1, by omega, by go_num, ?_, hbB2.trans (hk3.below hgB (by simp; omega))⟩
          rw [HS.out, HO.out, if_pos HH.out]
          exact hst3
      · have HH := Lib.hid h1
        have heq' : ∀ w, (binOp .eql 24 (.agg #[.int .i64 x.k, .int .i64 x.x, .int .i64 x.y]) (.agg #[.int .i64 y.k, .int .i64 y.x, .int .i64 y.y])).run Try.prog w = .ok (.bool false) w := by simpa [h1] using heq
        clear heq h1
        go_wp2_with fail
        refine (put_i (V := 1) (N := 1) (by decide) (by decide) (by decide) (by decide) (by omega) hst').mono ?_
        rintro e w3 ⟨rfl, hst3, hk3⟩
        have hX3 := hk3.block _ _ _ hX hne1 (by decide)
        have hY3 := hk3.block _ _ _ hY hne2 (by decide)
        have hB3 := hbB2.trans (hk3.below hgB (by simp; omega))
        obtain ⟨xa3, xb3, xc3⟩ := hX3.inp
        obtain ⟨ya3, yb3, yc3⟩ := hY3.inp
        obtain ⟨hxor, hK⟩ := i64_xor x.k.toNat y.k.toNat (by omega) (by omega)
        rw [Int.toNat_of_nonneg gx1, Int.toNat_of_nonneg gy1] at hxor
        generalize x.k.toNat ^^^ y.k.toNat = K at hxor hK HO
        have hs3 := hB3.size
        clear hst' hk3 hX hY hbB2 heq' x0 x1 x2 y0 y1 y2
        go_wp2_with fail
        refine (put_i (V := (K : Int)) (N := 8) (by omega) (by decide) (by decide) (by show (K : Int) < 256; omega) (by simp [bitsOf_length]; omega) hst3).mono ?_
        rintro e w4 ⟨rfl, hst4, hk4⟩
        have hX4 := hk4.block _ _ _ hX3 hne1 (by decide)
        have hY4 := hk4.block _ _ _ hY3 hne2 (by decide)
        have hB4 := hB3.trans (hk4.below hgB (by omega))
        obtain ⟨xa4, xb4, xc4⟩ := hX4.inp
        obtain ⟨ya4, yb4, yc4⟩ := hY4.inp
        have hs4 := hB4.size
        clear hst3 hk4 hX3 hY3 hB3 hxor xa3 xb3 xc3 ya3 yb3 yc3
        by_cases h2 : x.x = y.x ∧ x.y = y.y
        · have t1 : (x.x == y.x) = true := by simp [h2.1]
          have t2 : (x.y == y.y) = true := by simp [h2.2]
          have H2 := Lib.hid h2
          clear h2
          go_wp2_with fail
          refine (put_i (V := 0) (N := 1) (by decide) (by decide) (by decide) (by decide) (by simp [bitsOf_length]; omega) hst4).mono ?_
          rintro e w5 ⟨rfl, hst5, hk5⟩
          go_wp2_with fail
          go_roundw
          case measure => simp [intOf]; omega
          case rel =>
            refine ⟨k + 1, by omega, by go_num, ?_, hB4.trans (hk5.below hgB (by omega))⟩
            rw [HS.out, HO.out, if_neg HH.out, if_pos H2.out]
            simp only [← List.append_assoc]
            exact hst5
        · have H2 := Lib.hid h2
          have t1 : (x.x == y.x && x.y == y.y) = false := by
            rw [Bool.eq_false_iff]; simpa using h2
          clear h2
          by_cases h3 : x.x = y.x
          · have t2 : (x.x == y.x) = true := by simp [h3]
            have t3 : (x.y == y.y) = false := by simpa [h3] using t1
            clear h3 t1
            go_wp2_with fail
            refine (put_i (V := 1) (N := 1) (by decide) (by decide) (by decide) (by decide) (by simp [bitsOf_length]; omega) hst4).mono ?_
            rintro e w5 ⟨rfl, hst5, hk5⟩
            have hX5 := hk5.block _ _ _ hX4 hne1 (by decide)
            have hB5 := hB4.trans (hk5.below hgB (by omega))
            obtain ⟨xa5, xb5, xc5⟩ := hX5.inp
            have hs5 := hB5.size
            clear hst4 hk5 hX4 hY4 hB4 xa4 xb4 xc4 ya4 yb4 yc4
            go_wp2_with fail
            refine (put_i (V := x.x + 128) (N := 8) (by omega) (by decide) (by decide) (by show x.x + 128 < 256; omega) (by simp [bitsOf_length]; omega) hst5).mono ?_
            rintro e w6 ⟨rfl, hst6, hk6⟩
            have hX6 := hk6.block _ _ _ hX5 hne1 (by decide)
            have hB6 := hB5.trans (hk6.below hgB (by omega))
            obtain ⟨xa6, xb6, xc6⟩ := hX6.inp
            have hs6 := hB6.size
            clear hst5 hk6 hX5 hB5 xa5 xb5 xc5
            go_wp2_with fail
            refine (put_i (V := x.y + 128) (N := 8) (by omega) (by decide) (by decide) (by show x.y + 128 < 256; omega) (by simp [bitsOf_length]; omega) hst6).mono ?_
            rintro e w7 ⟨rfl, hst7, hk7⟩
            go_wp2_with fail
            go_roundw
            case measure => simp [intOf]; omega
            case rel =>
              refine ⟨k + 1, by omega, by go_num, ?_, hB6.trans (hk7.below hgB (by omega))⟩
              rw [HS.out, HO.out, if_neg HH.out, if_neg H2.out]
              simp only [← List.append_assoc]
              exact hst7
          · have t2 : (x.x == y.x) = false := by simp [h3]
            clear h3 t1
            go_wp2_with fail
            refine (put_i (V := 1) (N := 1) (by decide) (by decide) (by decide) (by decide) (by simp [bitsOf_length]; omega) hst4).mono ?_
            rintro e w5 ⟨rfl, hst5, hk5⟩
            have hX5 := hk5.block _ _ _ hX4 hne1 (by decide)
            have hB5 := hB4.trans (hk5.below hgB (by omega))
            obtain ⟨xa5, xb5, xc5⟩ := hX5.inp
            have hs5 := hB5.size
            clear hst4 hk5 hX4 hY4 hB4 xa4 xb4 xc4 ya4 yb4 yc4
            go_wp2_with fail
            refine (put_i (V := x.x + 128) (N := 8) (by omega) (by decide) (by decide) (by show x.x + 128 < 256; omega) (by simp [bitsOf_length]; omega) hst5).mono ?_
            rintro e w6 ⟨rfl, hst6, hk6⟩
            have hX6 := hk6.block _ _ _ hX5 hne1 (by decide)
            have hB6 := hB5.trans (hk6.below hgB (by omega))
            obtain ⟨xa6, xb6, xc6⟩ := hX6.inp
            have hs6 := hB6.size
            clear hst5 hk6 hX5 hB5 xa5 xb5 xc5
            go_wp2_with fail
            refine (put_i (V := x.y + 128) (N := 8) (by omega) (by decide) (by decide) (by show x.y + 128 < 256; omega) (by simp [bitsOf_length]; omega) hst6).mono ?_
            rintro e w7 ⟨rfl, hst7, hk7⟩
            go_wp2_with fail
            go_roundw
            case measure => simp [intOf]; omega
            case rel =>
              refine ⟨k + 1, by omega, by go_num, ?_, hB6.trans (hk7.below hgB (by omega))⟩
              rw [HS.out, HO.out, if_neg HH.out, if_neg H2.out]
              simp only [← List.append_assoc]
              exact hst7
    · obtain rfl : k = n' := by omega
      have hln := HN.out
      have hln' := HN'.out
      rw [List.take_of_length_le (by omega), List.take_of_length_le (by omega)] at hst
      have hle := packBits_le l l'
      have hw := wbytes_any g w.heap.size (packBits l l') wr hst (by omega)
      have HW := Lib.hid hw
      clear hst hle hln hln' hw
      go_wp2_with fail
      refine HW.out.mono ?_
      rintro e w3 ⟨A3, c3, rfl, hown3, hb3⟩
      go_wp2_with fail
      go_ret2
      exact ⟨A3, c3, by simp, own_mono hown3 hsz, hb.trans (hb3.mono hsz)⟩

/-- Pack at all frames. -/
theorem errFs_0 {l l' : List Inp} (h : errFs l l' = 0) : l'.length = l.length ∧ l.length ≤ 8 ∧ (∀ i ∈ l, ¬ i.bad) ∧ (∀ i ∈ l', ¬ i.bad) := by
  unfold errFs at h
  split at h
  · rename_i h0
    unfold errF at h h0
    split at h0
    · simp at h0
    · split at h
      · simp at h
      · rename_i h1 h2
        simp only [not_or, not_exists, not_and, Int.not_lt] at h1 h2
        exact ⟨by have := h2.2.2.1; omega, by omega, fun i hi => h1.2.2.2 i hi, fun i hi => h2.2.2.2 i hi⟩
  · exact absurd h ‹_›
end Go.Proofs.Ytlgcdcjfobfoiaa
