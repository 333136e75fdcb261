/-
  The contract of the reference's Difference. Conditions: lists that can be read, of at most 1048576 numbers.
-/
import Derived.Test.YtlgcdcjfobfoiaaDl
namespace Go.Proofs.Ytlgcdcjfobfoiaa
open Go.RowKit
set_option maxRecDepth 100000

theorem encTo_len (a b : List Int) (hd : List Bool) : ∀ k, k ≤ 1048576 → (encTo a b hd k).2.length ≤ hd.length + 160 * k := by
  intro k
  induction k with
  | zero => intro _; simp [encTo]
  | succ k ih =>
    intro hk
    have h0 := ih (by omega)
    have hs := encTo_le a b hd k
    have hwr := wrap64_rng (b.getD k 0 - bse a k)
    have h1 := (grp_le (encTo a b hd k).1 (by omega)).2
    have h2 := (grp_le _ (zig_lt _ hwr.1 hwr.2)).2
    rw [encTo]
    split
    · show (encTo a b hd k).2.length ≤ _; omega
    · show ((encTo a b hd k).2 ++ _ ++ _).length ≤ _
      rw [List.length_append, List.length_append, natB_length, natB_length]; omega
theorem encH_len (a b : List Int) (h : b.length ≤ 1048576) : (encH a b).length ≤ 208 := by
  unfold encH
  have := grp_le b.length (by omega)
  rw [List.length_append, List.length_append, bitsOf_length, bitsOf_length, natB_length]; omega

theorem add_i64 (A : Option Addr) (m c B : Nat) (V : Int) (bits : List Bool) (w : World) (hm : m = bits.length) (hr : Rd w B 1 A m (boolsV bits)) (hB : B ≤ w.heap.size) (h0 : 0 ≤ V) (h1 : V < 18446744073709551616) (hs : m + 64 ≤ 140737488355328) :
    Calls Try.prog 66 #[.slice A m c, .int .u64 V, .int .i64 64] w (RetS w 4 1 (m + 64) (boolsV (bits ++ bitsOf V.toNat 64))) := by
  obtain ⟨v, rfl⟩ := Int.eq_ofNat_of_zero_le h0
  exact add_any A m c B v 64 bits w hm hr hB (by omega) (by omega) (by omega)

instance (a b : List Int) : Decidable (encOk a b) := inferInstanceAs (Decidable (_ ∧ _ ∧ _))
/-- What the reference's Difference returns. -/
def DiffPost (w : World) (a b : List Int) (e : Ending) (w' : World) : Prop :=
  ∃ A c, e = .returned (.tuple #[.slice A (packB (encB a b)).length c, .bool (decide (encOk a b))]) ∧ w'.ownsRow w.heap.size 5 1 (.slice A (packB (encB a b)).length c) (packB (encB a b)).length (bytesV (packB (encB a b))) ∧ Below w.heap.size w w'

set_option maxHeartbeats 3200000 in
theorem refDiff_any (A A' : Option Addr) (n c n' c' B : Nat) (a b : List Int) (w : World) (hr : Rd w B 1 A n (a.map (Value.int .i64))) (hr' : Rd w B 1 A' n' (b.map (Value.int .i64))) (hn : n = a.length) (hn' : n' = b.length) (hnc : n ≤ 1048576 ∧ n' ≤ 1048576) (ha : i64r a) (hb : i64r b) (hB : B ≤ w.heap.size) :
    Calls Try.prog 56 #[.slice A n c, .slice A' n' c'] w (DiffPost w a b) := by
  obtain ⟨hnc1, hnc2⟩ := hnc
  have HLEN : Hid (∀ k, k ≤ n' → (encTo a b (encH a b) k).2.length ≤ 208 + 160 * k) := Lib.hid fun k hk => by
    have h1 := encTo_len a b (encH a b) k (by omega)
    have h2 := encH_len a b (by omega)
    omega
  have HR := Lib.hid hr
  have HR' := Lib.hid hr'
  have HN := Lib.hid hn
  have HN' := Lib.hid hn'
  have HA := Lib.hid ha
  have HBB := Lib.hid hb
  obtain ⟨B0, hB0⟩ : ∃ B0, B0 = w.heap.size := ⟨_, rfl⟩
  have HB0 := Lib.hid hB0
  rw [← hB0] at hB
  clear hr hr' hn hn' ha hb
  have hb1 := (Below.refl B0 w).alloc (by omega) (.cells #[] 4)
  have hs1 := hb1.size
  have HS1 := Lib.hid (sumInts_any A n c B a (w.alloc (.cells #[] 4)) (HR.out.below (hb1.mono hB)) HN.out (by omega) (by rw [← hB0] at hs1; omega) HA.out)
  clear hB0 hs1
  go_enter Try.func56, Try.ntmps56
  go_wp2_with fail
  refine HS1.out.mono ?_
  rintro e w2 ⟨rfl, hb2⟩
  have hbb2 := hb1.trans (hb2.mono (by have := hb1.size; have := HB0.out; omega))
  have hs2 : B0 ≤ w2.heap.size := by have := hbb2.size; have := HB0.out; omega
  have hra := sumI_rng a
  clear hb1 hb2 HS1
  go_wp2_with fail
  refine (add_i64 _ 0 _ B0 (sumI a) [] w2 rfl (Rd.nil_ _) hs2 hra.1 hra.2 (by omega)).mono ?_
  rintro e w3 ⟨A3, c3, rfl, ho3, hb3⟩
  have hbb3 := hbb2.trans (hb3.mono hs2)
  have hs3 : B0 ≤ w3.heap.size := by have := hbb3.size; have := HB0.out; omega
  clear hra hbb2 hb3 hs2
  go_wp2_with fail
  have HS2 := Lib.hid (sumInts_any A' n' c' B b w3 (HR'.out.below (hbb3.mono hB)) HN'.out (by omega) (by omega) HBB.out)
  refine HS2.out.mono ?_
  rintro e w4 ⟨rfl, hb4⟩
  have hr4 := own_rd ho3 hb4
  have hbb4 := hbb3.trans (hb4.mono hs3)
  have hs4 : B0 ≤ w4.heap.size := by have := hbb4.size; have := HB0.out; omega
  have hs34 := hb4.size
  have hrb := sumI_rng b
  have HADD := Lib.hid (add_i64 A3 (0 + 64) c3 w4.heap.size (sumI b) _ w4 (by simp [bitsOf_length]) (hr4.more hs34) (Nat.le_refl _) hrb.1 hrb.2 (by omega))
  clear hrb hb4 hbb3 HS2 hr4 ho3 hs34 hs3
  go_wp2_with fail
  refine HADD.out.mono ?_
  rintro e w5 ⟨A5, c5, rfl, ho5, hb5⟩
  have hbb5 := hbb4.trans (hb5.mono hs4)
  have hs5 : B0 ≤ w5.heap.size := by have := hbb5.size; have := HB0.out; omega
  have HNAT := Lib.hid (natR_any A5 (0 + 64 + 64) c5 w5.heap.size n' _ w5 (by simp [bitsOf_length]) (Rd.of_own ho5) (Nat.le_refl _) (by omega) (by omega))
  clear hb5 hbb4 HADD ho5 hs4
  go_wp2_with fail
  refine HNAT.out.mono ?_
  clear HNAT
  rintro e w6 ⟨A6, c6, rfl, ho6, hb6⟩
  have hbb6 := hbb5.trans (hb6.mono hs5)
  have HENC : Hid ((([] ++ bitsOf (sumI a).toNat 64) ++ bitsOf (sumI b).toNat 64) ++ natB n' = encH a b ∧ 0 + 64 + 64 + 5 * grp n' = (encH a b).length) := Lib.hid ⟨by rw [HN'.out]; rfl, by unfold encH; rw [← HN'.out, List.length_append, List.length_append, bitsOf_length, bitsOf_length, natB_length]⟩
  rw [HENC.out.1] at ho6
  have ho6' := own_mono ho6 hs5
  obtain ⟨q0, hq0⟩ : ∃ q0, q0 = 0 + 64 + 64 + 5 * grp n' := ⟨_, rfl⟩
  rw [← hq0] at ho6' ⊢
  have HQ0 : Hid (q0 = (encH a b).length) := Lib.hid (hq0.trans HENC.out.2)
  clear hb6 hbb5 ho6 HENC hq0 hs5
  go_wp2_with fail
  go_loopw [6, 7, 24] (fun x s i wr => ∃ (k S q : Nat) (A2 : Option Addr) (c2 : Nat), k ≤ n' ∧ i = .int .i64 k ∧ s = .int .i64 S ∧ x = .slice A2 q c2 ∧ S ≤ k ∧ q ≤ 208 + 160 * k ∧ Hid (S = (encTo a b (encH a b) k).1 ∧ q = (encTo a b (encH a b) k).2.length) ∧ wr.ownsRow B0 4 1 (.slice A2 q c2) q (boolsV (encTo a b (encH a b) k).2) ∧ Below B0 w wr) (fun _ _ i _ => n' - (intOf i).toNat)
  case atStart => exact ⟨0, 0, q0, A6, c6, Nat.zero_le _, rfl, rfl, rfl, Nat.le_refl _, by have := HLEN.out 0 (Nat.zero_le _); have := HQ0.out; simp [encTo] at *; omega, Lib.hid ⟨rfl, HQ0.out⟩, ho6', hbb6⟩
  case round =>
    obtain ⟨k, S, q, A2, c2, hk, rfl, rfl, rfl, hSk, hqk, HSQ, ho, hb⟩ := hrel
    have hsz : B0 ≤ wr.heap.size := by have := hb.size; have := HB0.out; omega
    clear ho6' hbb6
    by_cases hlt : k < n'
    · obtain ⟨x, hx⟩ : ∃ x, b[k]? = some x := ⟨_, List.getElem?_eq_getElem (by have := HN'.out; omega)⟩
      obtain ⟨xb, xo, rfl, _, hcx⟩ := (HR'.out.below (hb.mono hB)).at1 hlt (u := .int .i64 x) (by rw [List.getElem?_map, hx]; rfl)
      have hget : b.getD k 0 = x := by simp [List.getD, hx]
      have HG := Lib.hid hget
      have HX := Lib.hid hx
      clear hx hget
      obtain ⟨y, hy⟩ : ∃ y, y = bse a k := ⟨_, rfl⟩
      have HY := Lib.hid hy
      have hkk : (k : Int) < n' := by omega
      by_cases hkn : k < n
      · obtain ⟨yb, yo, rfl, _, hcy⟩ := (HR.out.below (hb.mono hB)).at1 hkn (u := .int .i64 y) (by
          have h1 : a[k]? = some (a.getD k 0) := by simp [List.getD, List.getElem?_eq_getElem (show k < a.length by have := HN.out; omega)]
          rw [List.getElem?_map, h1, hy]; rfl)
        clear hy
        · by_cases hxy : (x == y) = true
          · have hnx : encTo a b (encH a b) (k + 1) = (S + 1, (encTo a b (encH a b) k).2) := by
              have : b.getD k 0 = bse a k := by rw [HG.out, ← HY.out]; simpa using hxy
              rw [encTo, if_pos this, ← HSQ.out.1]
            have HNX := Lib.hid hnx
            clear hnx
            go_wp2_with fail
            go_roundw
            case rel => exact ⟨k + 1, S + 1, q, A2, c2, by omega, by go_num, by go_num, rfl, by omega, by omega, Lib.hid (by rw [HNX.out]; exact ⟨rfl, HSQ.out.2⟩), by rw [HNX.out]; exact ho, hb⟩
            case measure => simp [intOf]; omega
          · have hxy' : (x == y) = false := by simpa using hxy
            have hnx : encTo a b (encH a b) (k + 1) = (0, (encTo a b (encH a b) k).2 ++ natB S ++ natB (zig (wrap64 (x - y)))) := by
              have : ¬ b.getD k 0 = bse a k := by rw [HG.out, ← HY.out]; simpa using hxy
              rw [encTo, if_neg this, ← HSQ.out.1, HG.out, ← HY.out]
            have HNX := Lib.hid hnx
            have HNAT := Lib.hid (natR_any A2 q c2 wr.heap.size S _ wr HSQ.out.2 (Rd.of_own ho) (Nat.le_refl _) (by omega) (by omega))
            have hgS := (grp_le S (by omega)).2
            clear hnx hxy
            go_wp2_with fail
            refine HNAT.out.mono ?_
            clear HNAT
            rintro e w8 ⟨A8, c8, rfl, ho8, hb8⟩
            have hbb8 := hb.trans (hb8.mono hsz)
            have hs8 : B0 ≤ w8.heap.size := by have := hbb8.size; have := HB0.out; omega
            have hwr9 := wrap64_rng (x - y)
            have HINT := Lib.hid (intR_any A8 (q + 5 * grp S) c8 w8.heap.size (wrap64 (x - y)) _ w8 (by rw [List.length_append, natB_length, ← HSQ.out.2]) (Rd.of_own ho8) (Nat.le_refl _) hwr9.1 hwr9.2 (by omega))
            have hgz := (grp_le _ (zig_lt _ hwr9.1 hwr9.2)).2
            have HGZ := Lib.hid hgz
            have HGS := Lib.hid hgS
            clear hwr9 hb8 ho8 hb ho hgz hgS
            go_wp2_with fail
            refine HINT.out.mono ?_
            clear HINT
            rintro e w9 ⟨A9, c9, rfl, ho9, hb9⟩
            have hbb9 := hbb8.trans (hb9.mono hs8)
            have ho9' := own_mono ho9 hs8
            clear hb9 ho9 hbb8
            go_wp2_with fail
            go_roundw
            case rel => exact ⟨k + 1, 0, _, A9, c9, by omega, by go_num, rfl, rfl, by omega, by have := HGZ.out; have := HGS.out; omega, Lib.hid (by rw [HNX.out]; exact ⟨rfl, by simp only [List.length_append, natB_length]; rw [← HSQ.out.2]⟩), by rw [HNX.out]; exact ho9', hbb9⟩
            case measure => simp [intOf]; omega
      · have hy0 : y = 0 := by
          rw [hy]; unfold bse
          simp [List.getD, List.getElem?_eq_none (show a.length ≤ k by have := HN.out; omega)]
        have hxr := HBB.out x (List.mem_of_getElem? HX.out)
        clear hy
        subst hy0
        · by_cases hxy : (x == 0) = true
          · have hnx : encTo a b (encH a b) (k + 1) = (S + 1, (encTo a b (encH a b) k).2) := by
              have : b.getD k 0 = bse a k := by rw [HG.out, ← HY.out]; simpa using hxy
              rw [encTo, if_pos this, ← HSQ.out.1]
            have HNX := Lib.hid hnx
            clear hnx
            go_wp2_with fail
            go_roundw
            case rel => exact ⟨k + 1, S + 1, q, A2, c2, by omega, by go_num, by go_num, rfl, by omega, by omega, Lib.hid (by rw [HNX.out]; exact ⟨rfl, HSQ.out.2⟩), by rw [HNX.out]; exact ho, hb⟩
            case measure => simp [intOf]; omega
          · have hxy' : (x == 0) = false := by simpa using hxy
            have hnx : encTo a b (encH a b) (k + 1) = (0, (encTo a b (encH a b) k).2 ++ natB S ++ natB (zig (x))) := by
              have : ¬ b.getD k 0 = bse a k := by rw [HG.out, ← HY.out]; simpa using hxy
              rw [encTo, if_neg this, ← HSQ.out.1, HG.out, ← HY.out, show wrap64 (x - 0) = x by unfold wrap64; omega]
            have HNX := Lib.hid hnx
            have HNAT := Lib.hid (natR_any A2 q c2 wr.heap.size S _ wr HSQ.out.2 (Rd.of_own ho) (Nat.le_refl _) (by omega) (by omega))
            have hgS := (grp_le S (by omega)).2
            clear hnx hxy
            go_wp2_with fail
            refine HNAT.out.mono ?_
            clear HNAT
            rintro e w8 ⟨A8, c8, rfl, ho8, hb8⟩
            have hbb8 := hb.trans (hb8.mono hsz)
            have hs8 : B0 ≤ w8.heap.size := by have := hbb8.size; have := HB0.out; omega
            have hwr9 := hxr
            have HINT := Lib.hid (intR_any A8 (q + 5 * grp S) c8 w8.heap.size (x) _ w8 (by rw [List.length_append, natB_length, ← HSQ.out.2]) (Rd.of_own ho8) (Nat.le_refl _) hwr9.1 hwr9.2 (by omega))
            have hgz := (grp_le _ (zig_lt _ hwr9.1 hwr9.2)).2
            have HGZ := Lib.hid hgz
            have HGS := Lib.hid hgS
            clear hwr9 hb8 ho8 hb ho hgz hgS
            go_wp2_with fail
            refine HINT.out.mono ?_
            clear HINT
            rintro e w9 ⟨A9, c9, rfl, ho9, hb9⟩
            have hbb9 := hbb8.trans (hb9.mono hs8)
            have ho9' := own_mono ho9 hs8
            clear hb9 ho9 hbb8
            go_wp2_with fail
            go_roundw
            case rel => exact ⟨k + 1, 0, _, A9, c9, by omega, by go_num, rfl, rfl, by omega, by have := HGZ.out; have := HGS.out; omega, Lib.hid (by rw [HNX.out]; exact ⟨rfl, by simp only [List.length_append, natB_length]; rw [← HSQ.out.2]⟩), by rw [HNX.out]; exact ho9', hbb9⟩
            case measure => simp [intOf]; omega
    · obtain rfl : k = n' := by omega
      have henc : encB a b = encEnd (encTo a b (encH a b) k) := by unfold encB; rw [← HN'.out]
      have HENC := Lib.hid henc
      have HDEC : Hid (∀ t, t = (encB a b).length → (decide (encOk a b) = decide (n ≤ 65536 ∧ k ≤ 65536 ∧ t ≤ 524288))) := Lib.hid fun t ht => by
        have h1 := HN.out
        have h2 := HN'.out
        subst ht
        refine decide_eq_decide.2 ?_
        unfold encOk
        rw [← h1, ← h2]
      clear henc
      by_cases hS : 0 < S
      · have he2 : encB a b = (encTo a b (encH a b) k).2 ++ natB S := by
          rw [HENC.out]; unfold encEnd; rw [← HSQ.out.1, if_pos hS]
        have HNAT := Lib.hid (natR_any A2 q c2 wr.heap.size S _ wr HSQ.out.2 (Rd.of_own ho) (Nat.le_refl _) (by omega) (by omega))
        have hgS := (grp_le S (by omega)).2
        have HT : Hid (q + 5 * grp S = (encB a b).length) := Lib.hid (by rw [he2, List.length_append, natB_length, ← HSQ.out.2])
        rw [← he2] at HNAT
        have hqg : q + 5 * grp S ≤ 140737488355328 := by omega
        generalize q + 5 * grp S = t at *
        clear he2 HENC hgS
        go_wp2_with fail
        refine HNAT.out.mono ?_
        clear HNAT
        rintro e w8 ⟨A8, c8, rfl, ho8, hb8⟩
        have hbb8 := hb.trans (hb8.mono hsz)
        have hs8 : B0 ≤ w8.heap.size := by have := hbb8.size; have := HB0.out; omega
        have HBY := Lib.hid (bytes_any A8 t c8 w8.heap.size (encB a b) w8 HT.out (Rd.of_own ho8) (Nat.le_refl _) hqg)
        clear hb8 ho8 hb ho
        have hcase : 65536 < n ∨ (n ≤ 65536 ∧ 65536 < k) ∨ (n ≤ 65536 ∧ k ≤ 65536 ∧ 524288 < t) ∨ (n ≤ 65536 ∧ k ≤ 65536 ∧ t ≤ 524288) := by omega
        rcases hcase with t1 | ⟨t1, t2⟩ | ⟨t1, t2, t3⟩ | ⟨t1, t2, t3⟩
        all_goals
          have hdec := HDEC.out t HT.out
          first
            | rw [show decide (n ≤ 65536 ∧ k ≤ 65536 ∧ t ≤ 524288) = true from decide_eq_true ⟨by omega, by omega, by omega⟩] at hdec
            | rw [show decide (n ≤ 65536 ∧ k ≤ 65536 ∧ t ≤ 524288) = false from decide_eq_false (by omega)] at hdec
          have HD := Lib.hid hdec
          clear hdec
          go_wp2_with fail
          refine HBY.out.mono ?_
          rintro e w9 ⟨A9, c9, rfl, ho9, hb9⟩
          have hbb9 := hbb8.trans (hb9.mono hs8)
          have ho9' := own_mono ho9 hs8
          clear hb9 ho9
          go_wp2_with fail
          go_ret2
          refine ⟨A9, c9, ?_, by rw [← HB0.out]; exact ho9', by rw [← HB0.out]; exact hbb9⟩
          rw [HD.out]
          first
            | rfl
            | exact congrArg (fun x => Ending.returned (.tuple #[.slice A9 (packB (encB a b)).length c9, .bool x])) (show decide ((t : Int) ≤ 524288) = true from decide_eq_true (by omega))
            | exact congrArg (fun x => Ending.returned (.tuple #[.slice A9 (packB (encB a b)).length c9, .bool x])) (show decide ((t : Int) ≤ 524288) = false from decide_eq_false (by omega))
      · obtain rfl : S = 0 := by omega
        have he2 : encB a b = (encTo a b (encH a b) k).2 := by
          rw [HENC.out]; unfold encEnd; rw [← HSQ.out.1, if_neg hS]
        have HT : Hid (q = (encB a b).length) := Lib.hid (by rw [he2]; exact HSQ.out.2)
        rw [← he2] at ho
        have HBY := Lib.hid (bytes_any A2 q c2 wr.heap.size (encB a b) wr HT.out (Rd.of_own ho) (Nat.le_refl _) (by omega))
        clear he2 HENC hS ho
        have hcase : 65536 < n ∨ (n ≤ 65536 ∧ 65536 < k) ∨ (n ≤ 65536 ∧ k ≤ 65536 ∧ 524288 < q) ∨ (n ≤ 65536 ∧ k ≤ 65536 ∧ q ≤ 524288) := by omega
        rcases hcase with t1 | ⟨t1, t2⟩ | ⟨t1, t2, t3⟩ | ⟨t1, t2, t3⟩
        all_goals
          have hdec := HDEC.out q HT.out
          first
            | rw [show decide (n ≤ 65536 ∧ k ≤ 65536 ∧ q ≤ 524288) = true from decide_eq_true ⟨by omega, by omega, by omega⟩] at hdec
            | rw [show decide (n ≤ 65536 ∧ k ≤ 65536 ∧ q ≤ 524288) = false from decide_eq_false (by omega)] at hdec
          have HD := Lib.hid hdec
          clear hdec
          go_wp2_with fail
          refine HBY.out.mono ?_
          rintro e w9 ⟨A9, c9, rfl, ho9, hb9⟩
          have hbb9 := hb.trans (hb9.mono hsz)
          have ho9' := own_mono ho9 hsz
          clear hb9 ho9
          go_wp2_with fail
          go_ret2
          refine ⟨A9, c9, ?_, by rw [← HB0.out]; exact ho9', by rw [← HB0.out]; exact hbb9⟩
          rw [HD.out]
          first
            | rfl
            | exact congrArg (fun x => Ending.returned (.tuple #[.slice A9 (packB (encB a b)).length c9, .bool x])) (show decide ((q : Int) ≤ 524288) = true from decide_eq_true (by omega))
            | exact congrArg (fun x => Ending.returned (.tuple #[.slice A9 (packB (encB a b)).length c9, .bool x])) (show decide ((q : Int) ≤ 524288) = false from decide_eq_false (by omega))
end Go.Proofs.Ytlgcdcjfobfoiaa
