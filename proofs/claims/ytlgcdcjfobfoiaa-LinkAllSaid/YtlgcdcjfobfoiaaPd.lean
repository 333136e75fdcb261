/-
  The contract of the reference's Packed. Conditions: at most 8 inputs each, all of them within their bounds.
-/
import Derived.Test.YtlgcdcjfobfoiaaPk
namespace Go.Proofs.Ytlgcdcjfobfoiaa
open Go.RowKit
set_option maxRecDepth 100000

theorem add_i {A : Option Addr} {m c : Nat} {V N : Int} {bits : List Bool} {w : World} (hr : w.ownsRow 0 4 1 (.slice A m c) m (boolsV bits)) (hm : m = bits.length) (h0 : 0 ≤ V) (hv : V < 18446744073709551616) (hN0 : 0 ≤ N) (hN : N ≤ 64) (hs : (m : Int) + N ≤ 140737488355328) :
    Calls Try.prog 66 #[.slice A m c, .int .u64 V, .int .i64 N] w fun e w' => ∃ A' c' m', m' = m + N.toNat ∧ e = .returned (.slice A' m' c') ∧ w'.ownsRow w.heap.size 4 1 (.slice A' m' c') m' (boolsV (bits ++ bitsOf V.toNat N.toNat)) ∧ Below w.heap.size w w' := by
  obtain ⟨v, rfl⟩ := Int.eq_ofNat_of_zero_le h0
  obtain ⟨n, rfl⟩ := Int.eq_ofNat_of_zero_le hN0
  refine (add_any A m c w.heap.size v n bits w hm (Rd.of_own hr) (Nat.le_refl _) (by show v < 18446744073709551616; omega) (by omega) (by omega)).mono ?_
  rintro e w' ⟨A', c', rfl, h1, h2⟩
  exact ⟨A', c', _, rfl, rfl, h1, h2⟩

set_option maxHeartbeats 3200000 in
theorem packed_good (A A' : Option Addr) (n c n' c' B : Nat) (l l' : List Inp) (w : World) (hn : n = l.length) (hn' : n' = l'.length) (hm : n ≤ 8) (hnn : n' = n)
   (hr : Rd w B 3 A n (inCs l)) (hr' : Rd w B 3 A' n' (inCs l')) (hB : B ≤ w.heap.size) (hg : ∀ i ∈ l, ¬ i.bad) (hg' : ∀ i ∈ l', ¬ i.bad) :
    Calls Try.prog 22 #[.slice A n c, .slice A' n' c'] w (RetS w 5 1 (packB (packBits l l')).length (bytesV (packB (packBits l l')))) := by
  subst hnn
  have HR := Lib.hid hr
  have HR' := Lib.hid hr'
  have HN := Lib.hid hn
  have HN' := Lib.hid hn'
  have HG := Lib.hid hg
  have HG' := Lib.hid hg'
  clear hn hn' hr hr' hg hg'
  go_enter Try.func22, Try.ntmps22
  go_wp2_with fail
  go_loopw [5, 11] (fun o i wr => ∃ (k m2 : Nat) (A2 : Option Addr) (c2 : Nat), k ≤ n' ∧ i = .int .i64 k ∧ o = .slice A2 m2 c2 ∧ m2 = (packBits (l.take k) (l'.take k)).length ∧ wr.ownsRow w.heap.size 4 1 (.slice A2 m2 c2) m2 (boolsV (packBits (l.take k) (l'.take k))) ∧ Below w.heap.size w wr) (fun _ i _ => n' - (intOf i).toNat)
  case atStart => exact ⟨0, 0, none, 0, Nat.zero_le _, rfl, rfl, rfl, World.ownsRow_nil _ _ _ _, Below.refl _ _⟩
  case round =>
    obtain ⟨k, m2, A2, c2, hk, rfl, rfl, hm2, hown, hb⟩ := hrel
    have hsz := hb.size
    by_cases hlt : k < n'
    · obtain ⟨b', o', x, rfl, hbB', hx, x0, x1, x2⟩ := HR'.out.inp HN'.out hlt hb hB
      obtain ⟨b, o, y, rfl, hbB, hy, y0, y1, y2⟩ := HR.out.inp HN.out hlt hb hB
      have lb : b < wr.heap.size := by omega
      have lb' : b' < wr.heap.size := by omega
      have hgx := HG'.out x (List.mem_of_getElem? hx)
      have hgy := HG.out y (List.mem_of_getElem? hy)
      have hsn := packBits_snoc hy hx
      have hle := packBits_le (l.take k) (l'.take k)
      have htl : (l'.take k).length ≤ k := List.length_take_le _ _
      have hbits : m2 ≤ 208 := by omega
      simp only [Inp.bad, not_or, Int.not_lt] at hgx hgy
      obtain ⟨gx1, gx2, gx3, gx4, gx5, gx6⟩ := hgx
      obtain ⟨gy1, gy2, gy3, gy4, gy5, gy6⟩ := hgy
      generalize packBits (l.take k) (l'.take k) = bits at *
      have hone : oneBits y x = if x = y then [false] else [true] ++ bitsOf (x.k.toNat ^^^ y.k.toNat) 8 ++ (if x.x = y.x ∧ x.y = y.y then [false] else [true] ++ bitsOf (x.x + 128).toNat 8 ++ bitsOf (x.y + 128).toNat 8) := rfl
      have HS := Lib.hid hsn
      have HO := Lib.hid hone
      have HM2 := Lib.hid hm2
      have heq := inp_eql x y
      have hX : Bk ((wr.alloc (.cells #[.int .i64 x.k, .int .i64 x.x, .int .i64 x.y] 24)).alloc (.cells #[.int .i64 y.k, .int .i64 y.x, .int .i64 y.y] 24)) wr.heap.size 24 #[.int .i64 x.k, .int .i64 x.x, .int .i64 x.y] := (Bk.new _ _ _).alloc _
      have hY : Bk ((wr.alloc (.cells #[.int .i64 x.k, .int .i64 x.x, .int .i64 x.y] 24)).alloc (.cells #[.int .i64 y.k, .int .i64 y.x, .int .i64 y.y] 24)) (wr.heap.size + 1) 24 #[.int .i64 y.k, .int .i64 y.x, .int .i64 y.y] := by
        have := Bk.new (wr.alloc (.cells #[.int .i64 x.k, .int .i64 x.x, .int .i64 x.y] 24)) 24 #[.int .i64 y.k, .int .i64 y.x, .int .i64 y.y]
        simpa using this
      have hbA := hb.trans (((Below.refl w.heap.size wr).alloc hsz (.cells #[.int .i64 x.k, .int .i64 x.x, .int .i64 x.y] 24)).alloc (by simp; omega) (.cells #[.int .i64 y.k, .int .i64 y.x, .int .i64 y.y] 24))
      have hown' := own_mono ((hown.alloc (.cells #[.int .i64 x.k, .int .i64 x.x, .int .i64 x.y] 24)).alloc (.cells #[.int .i64 y.k, .int .i64 y.x, .int .i64 y.y] 24)) (Nat.zero_le _)
      have hszA : wr.heap.size + 2 ≤ ((wr.alloc (.cells #[.int .i64 x.k, .int .i64 x.x, .int .i64 x.y] 24)).alloc (.cells #[.int .i64 y.k, .int .i64 y.x, .int .i64 y.y] 24)).heap.size := by simp
      clear hsn hone hle htl hx hy hown hm2
      by_cases h1 : x = y
      · have HH := Lib.hid h1
        have heq' : ∀ w, (binOp .eql 24 (.agg #[.int .i64 x.k, .int .i64 x.x, .int .i64 x.y]) (.agg #[.int .i64 y.k, .int .i64 y.x, .int .i64 y.y])).run Try.prog w = .ok (.bool true) w := by simpa [h1] using heq
        clear heq h1
        go_wp2_with fail
        refine (add_i (V := 0) (N := 1) hown' HM2.out (by decide) (by decide) (by decide) (by decide) (by omega)).mono ?_
        rintro e w3 ⟨A3, c3, m3, hm3, rfl, hown3, hb3⟩
        have HM3 := Lib.hid hm3
        clear hm3
        go_wp2_with fail
        go_roundw
        case measure => simp [intOf]; omega
        case rel =>
          refine ⟨k + 1, m3, A3, c3, by omega, by go_num, rfl, ?_, ?_, hbA.trans (hb3.mono (by simp; omega))⟩
          · rw [HS.out, HO.out, if_pos HH.out, HM3.out, HM2.out]; simp
          · rw [HS.out, HO.out, if_pos HH.out]
            exact own_mono hown3 (by simp; omega)
      · have HH := Lib.hid h1
        have heq' : ∀ w, (binOp .eql 24 (.agg #[.int .i64 x.k, .int .i64 x.x, .int .i64 x.y]) (.agg #[.int .i64 y.k, .int .i64 y.x, .int .i64 y.y])).run Try.prog w = .ok (.bool false) w := by simpa [h1] using heq
        clear heq h1
        obtain ⟨hxor, hK⟩ := i64_xor x.k.toNat y.k.toNat (by omega) (by omega)
        rw [Int.toNat_of_nonneg gx1, Int.toNat_of_nonneg gy1] at hxor
        generalize x.k.toNat ^^^ y.k.toNat = K at hxor hK HO
        go_wp2_with fail
        generalize hW : ((wr.alloc (.cells #[.int .i64 x.k, .int .i64 x.x, .int .i64 x.y] 24)).alloc (.cells #[.int .i64 y.k, .int .i64 y.x, .int .i64 y.y] 24)) = W at *
        clear hW x0 x1 x2 y0 y1 y2 heq'
        obtain ⟨xa, xb, xc⟩ := hX.inp
        obtain ⟨ya, yb, yc⟩ := hY.inp
        have hwK : IntKind.u64.wrap (K : Int) = K := IntWalk.u64_in _ (by omega)
        have lX : wr.heap.size < W.heap.size := by omega
        have lY : wr.heap.size + 1 < W.heap.size := by omega
        go_region_held3 (fun w' => w'.cell? ⟨wr.heap.size, 0, none⟩ = some (.int .i64 x.k) ∧ w'.cell? ⟨wr.heap.size + 1, 0, none⟩ = some (.int .i64 y.k)) (first | go_keep | exact ⟨k1, k2⟩)
          (first | (go_at_call 66; (with_reducible refine (add_i (V := 1) (N := 1) (World.ownsRow.drew hown') HM2.out (by decide) (by decide) (by decide) (by decide) (by omega)).mono ?_); rintro e w3 ⟨A3, c3, m3, hm3, rfl, hown3, hb3⟩; have HM3 := Lib.hid hm3; have hm3' : m3 ≤ 209 := (by simp at hm3; omega); clear hm3; have hX3 : Bk w3 _ _ _ := Bk.below (w := W.drew) hX hb3 lX; have hY3 : Bk w3 _ _ _ := Bk.below (w := W.drew) hY hb3 lY; have k1 := hX3.cell 0; have k2 := hY3.cell 0; have ls3 : W.heap.size ≤ w3.heap.size := hb3.size) | (go_at_call 66; (with_reducible refine (add_i (V := (K : Int)) (N := 8) (own_mono hown3 (Nat.zero_le _)) (by rw [HM3.out, HM2.out]; simp [bitsOf_length]) (by omega) (by omega) (by decide) (by decide) (by omega)).mono ?_); rintro e w4 ⟨A4, c4, m4, hm4, rfl, hown4, hb4⟩; have HM4 := Lib.hid hm4; have hm4' : m4 ≤ 217 := (by simp at hm4; omega); clear hm4; have hX4 : Bk w4 _ _ _ := Bk.below hX3 hb4 (by omega); have hY4 : Bk w4 _ _ _ := Bk.below hY3 hb4 (by omega); have k1 := hX4.cell 0; have k2 := hY4.cell 0; have ls4 : w3.heap.size ≤ w4.heap.size := hb4.size))
        have HL4 : Hid (m4 = (bits ++ bitsOf (Int.toNat 1) (Int.toNat 1) ++ bitsOf (Int.toNat (K : Int)) (Int.toNat 8)).length) := by
          have h3 := HM3.out
          have h4 := HM4.out
          have h2 := HM2.out
          exact Lib.hid (by rw [h4, h3, h2]; simp [bitsOf_length])
        have hB4 : Below w.heap.size w w4 := hbA.drew.trans ((hb3.mono (by show w.heap.size ≤ W.heap.size; omega)).trans (hb4.mono (by omega)))
        obtain ⟨xa4, xb4, xc4⟩ := hX4.inp
        obtain ⟨ya4, yb4, yc4⟩ := hY4.inp
        have lX4 : wr.heap.size < w4.heap.size := by omega
        clear hbA hb3 hb4 hX3 hY3 hX hY hown3 hown' xa xb xc ya yb yc k1 k2 hxor hwK
        by_cases h2 : x.x = y.x ∧ x.y = y.y
        · have t1 : (x.x == y.x) = true := by simp [h2.1]
          have t2 : (x.y == y.y) = true := by simp [h2.2]
          have H2 := Lib.hid h2
          clear h2
          go_wp2_with fail
          refine (add_i (V := 0) (N := 1) (own_mono hown4 (Nat.zero_le _)) HL4.out (by decide) (by decide) (by decide) (by decide) (by omega)).mono ?_
          rintro e w5 ⟨A5, c5, m5, hm5, rfl, hown5, hb5⟩
          have HM5 := Lib.hid hm5
          clear hm5
          go_wp2_with fail
          go_roundw
          case measure => simp [intOf]; omega
          case rel =>
            refine ⟨k + 1, m5, A5, c5, by omega, by go_num, rfl, ?_, ?_, hB4.trans (hb5.mono (by omega))⟩
            · rw [HS.out, HO.out, if_neg HH.out, if_pos H2.out, HM5.out, HL4.out]; simp [bitsOf_length]
            · rw [HS.out, HO.out, if_neg HH.out, if_pos H2.out]
              simp only [← List.append_assoc]
              exact own_mono hown5 (by omega)
        · have H2 := Lib.hid h2
          have t1 : (x.x == y.x && x.y == y.y) = false := by
            rw [Bool.eq_false_iff]; simpa using h2
          clear h2
          by_cases h3 : x.x = y.x
          · have t2 : (x.x == y.x) = true := by simp [h3]
            have t3 : (x.y == y.y) = false := by simpa [h3] using t1
            clear h3 t1
            have hw1 : IntKind.i64.wrap (x.x + 128) = x.x + 128 := IntWalk.i64_in _ (by omega)
            have hw2 : IntKind.i64.wrap (x.y + 128) = x.y + 128 := IntWalk.i64_in _ (by omega)
            have hw3 : IntKind.u64.wrap (x.x + 128) = x.x + 128 := IntWalk.u64_in _ (by omega)
            have hw4 : IntKind.u64.wrap (x.y + 128) = x.y + 128 := IntWalk.u64_in _ (by omega)
            go_wp2_with fail
            go_region_held3 (fun w' => w'.cell? ⟨wr.heap.size, 1, none⟩ = some (.int .i64 x.x) ∧ w'.cell? ⟨wr.heap.size, 2, none⟩ = some (.int .i64 x.y)) (first | go_keep | exact ⟨k1, k2⟩)
              (first | (go_at_call 66; (with_reducible refine (add_i (V := 1) (N := 1) (World.ownsRow.drew (own_mono hown4 (Nat.zero_le _))) HL4.out (by decide) (by decide) (by decide) (by decide) (by omega)).mono ?_); rintro e w5 ⟨A5, c5, m5, hm5, rfl, hown5, hb5⟩; have HM5 := Lib.hid hm5; have hm5' : m5 ≤ 218 := (by simp at hm5; omega); clear hm5; have hX5 : Bk w5 _ _ _ := Bk.below (w := w4.drew) hX4 hb5 (by show _ < w4.heap.size; omega); have k1 := hX5.cell 1; have k2 := hX5.cell 2; have ls5 : w4.heap.size ≤ w5.heap.size := hb5.size) | (go_at_call 66; (with_reducible refine (add_i (V := x.x + 128) (N := 8) (own_mono hown5 (Nat.zero_le _)) (by rw [HM5.out, HL4.out]; simp [bitsOf_length]) (by omega) (by omega) (by decide) (by decide) (by omega)).mono ?_); rintro e w6 ⟨A6, c6, m6, hm6, rfl, hown6, hb6⟩; have HM6 := Lib.hid hm6; have hm6' : m6 ≤ 226 := (by simp at hm6; omega); clear hm6; have hX6 : Bk w6 _ _ _ := Bk.below hX5 hb6 (by omega); have k1 := hX6.cell 1; have k2 := hX6.cell 2; have ls6 : w5.heap.size ≤ w6.heap.size := hb6.size) | (go_at_call 66; (with_reducible refine (add_i (V := x.y + 128) (N := 8) (own_mono hown6 (Nat.zero_le _)) (by rw [HM6.out, HM5.out, HL4.out]; simp [bitsOf_length]) (by omega) (by omega) (by decide) (by decide) (by omega)).mono ?_); rintro e w7 ⟨A7, c7, m7, hm7, rfl, hown7, hb7⟩; have HM7 := Lib.hid hm7; have hm7' : m7 ≤ 234 := (by simp at hm7; omega); clear hm7; have hX7 : Bk w7 _ _ _ := Bk.below hX6 hb7 (by omega); have k1 := hX7.cell 1; have k2 := hX7.cell 2; have ls7 : w6.heap.size ≤ w7.heap.size := hb7.size))
            go_wp2_with fail
            go_roundw
            case measure => simp [intOf]; omega
            case rel =>
              have hb567 := hB4.drew.trans (((hb5.mono (by show w.heap.size ≤ w4.heap.size; omega)).trans (hb6.mono (by omega))).trans (hb7.mono (by omega)))
              refine ⟨k + 1, m7, A7, c7, by omega, by go_num, rfl, ?_, ?_, hb567⟩
              · rw [HS.out, HO.out, if_neg HH.out, if_neg H2.out, HM7.out, HM6.out, HM5.out, HL4.out]; simp [bitsOf_length]
              · rw [HS.out, HO.out, if_neg HH.out, if_neg H2.out]
                simp only [← List.append_assoc]
                exact own_mono hown7 (by omega)
          · have t2 : (x.x == y.x) = false := by simp [h3]
            clear h3 t1
            have hw1 : IntKind.i64.wrap (x.x + 128) = x.x + 128 := IntWalk.i64_in _ (by omega)
            have hw2 : IntKind.i64.wrap (x.y + 128) = x.y + 128 := IntWalk.i64_in _ (by omega)
            have hw3 : IntKind.u64.wrap (x.x + 128) = x.x + 128 := IntWalk.u64_in _ (by omega)
            have hw4 : IntKind.u64.wrap (x.y + 128) = x.y + 128 := IntWalk.u64_in _ (by omega)
            go_wp2_with fail
            go_region_held3 (fun w' => w'.cell? ⟨wr.heap.size, 1, none⟩ = some (.int .i64 x.x) ∧ w'.cell? ⟨wr.heap.size, 2, none⟩ = some (.int .i64 x.y)) (first | go_keep | exact ⟨k1, k2⟩)
              (first | (go_at_call 66; (with_reducible refine (add_i (V := 1) (N := 1) (World.ownsRow.drew (own_mono hown4 (Nat.zero_le _))) HL4.out (by decide) (by decide) (by decide) (by decide) (by omega)).mono ?_); rintro e w5 ⟨A5, c5, m5, hm5, rfl, hown5, hb5⟩; have HM5 := Lib.hid hm5; have hm5' : m5 ≤ 218 := (by simp at hm5; omega); clear hm5; have hX5 : Bk w5 _ _ _ := Bk.below (w := w4.drew) hX4 hb5 (by show _ < w4.heap.size; omega); have k1 := hX5.cell 1; have k2 := hX5.cell 2; have ls5 : w4.heap.size ≤ w5.heap.size := hb5.size) | (go_at_call 66; (with_reducible refine (add_i (V := x.x + 128) (N := 8) (own_mono hown5 (Nat.zero_le _)) (by rw [HM5.out, HL4.out]; simp [bitsOf_length]) (by omega) (by omega) (by decide) (by decide) (by omega)).mono ?_); rintro e w6 ⟨A6, c6, m6, hm6, rfl, hown6, hb6⟩; have HM6 := Lib.hid hm6; have hm6' : m6 ≤ 226 := (by simp at hm6; omega); clear hm6; have hX6 : Bk w6 _ _ _ := Bk.below hX5 hb6 (by omega); have k1 := hX6.cell 1; have k2 := hX6.cell 2; have ls6 : w5.heap.size ≤ w6.heap.size := hb6.size) | (go_at_call 66; (with_reducible refine (add_i (V := x.y + 128) (N := 8) (own_mono hown6 (Nat.zero_le _)) (by rw [HM6.out, HM5.out, HL4.out]; simp [bitsOf_length]) (by omega) (by omega) (by decide) (by decide) (by omega)).mono ?_); rintro e w7 ⟨A7, c7, m7, hm7, rfl, hown7, hb7⟩; have HM7 := Lib.hid hm7; have hm7' : m7 ≤ 234 := (by simp at hm7; omega); clear hm7; have hX7 : Bk w7 _ _ _ := Bk.below hX6 hb7 (by omega); have k1 := hX7.cell 1; have k2 := hX7.cell 2; have ls7 : w6.heap.size ≤ w7.heap.size := hb7.size))
            go_wp2_with fail
            go_roundw
            case measure => simp [intOf]; omega
            case rel =>
              have hb567 := hB4.drew.trans (((hb5.mono (by show w.heap.size ≤ w4.heap.size; omega)).trans (hb6.mono (by omega))).trans (hb7.mono (by omega)))
              refine ⟨k + 1, m7, A7, c7, by omega, by go_num, rfl, ?_, ?_, hb567⟩
              · rw [HS.out, HO.out, if_neg HH.out, if_neg H2.out, HM7.out, HM6.out, HM5.out, HL4.out]; simp [bitsOf_length]
              · rw [HS.out, HO.out, if_neg HH.out, if_neg H2.out]
                simp only [← List.append_assoc]
                exact own_mono hown7 (by omega)
    · obtain rfl : k = n' := by omega
      have hln := HN.out
      have hln' := HN'.out
      rw [List.take_of_length_le (by omega), List.take_of_length_le (by omega)] at hown hm2
      have hle := packBits_le l l'
      have hw := bytes_any A2 m2 c2 wr.heap.size (packBits l l') wr hm2 (Rd.of_own hown) (Nat.le_refl _) (by omega)
      have HW := Lib.hid hw
      clear hown hle hln hln' hw hm2
      go_wp2_with fail
      refine HW.out.mono ?_
      rintro e w3 ⟨A3, c3, rfl, hown3, hb3⟩
      go_wp2_with fail
      go_ret
      exact ⟨A3, c3, by simp, own_mono hown3 hsz, hb.trans (hb3.mono hsz)⟩
end Go.Proofs.Ytlgcdcjfobfoiaa
