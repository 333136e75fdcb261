/-
  What delta.Ints writes, as a list of bits; its contract. Conditions: the lists can be read.
-/
import Derived.Test.YtlgcdcjfobfoiaaDc
namespace Go.Proofs.Ytlgcdcjfobfoiaa
open Go.RowKit
set_option maxRecDepth 100000

def encTo (a b : List Int) (hd : List Bool) : Nat → Nat × List Bool
  | 0 => (0, hd)
  | k + 1 => if b.getD k 0 = bse a k then ((encTo a b hd k).1 + 1, (encTo a b hd k).2) else (0, (encTo a b hd k).2 ++ natB (encTo a b hd k).1 ++ natB (zig (wrap64 (b.getD k 0 - bse a k))))
def encH (a b : List Int) : List Bool := bitsOf (sumI a).toNat 64 ++ bitsOf (sumI b).toNat 64 ++ natB b.length
def encEnd (p : Nat × List Bool) : List Bool := if 0 < p.1 then p.2 ++ natB p.1 else p.2
def encB (a b : List Int) : List Bool := encEnd (encTo a b (encH a b) b.length)
theorem encTo_le (a b : List Int) (hd : List Bool) (k : Nat) : (encTo a b hd k).1 ≤ k := by
  induction k with
  | zero => exact Nat.le_refl _
  | succ k ih =>
    unfold encTo
    split
    · show _ + 1 ≤ k + 1; omega
    · exact Nat.zero_le _
def i64r (l : List Int) : Prop := ∀ x ∈ l, -9223372036854775808 ≤ x ∧ x ≤ 9223372036854775807

theorem put64_i (g base : Nat) (V : Int) (bits : List Bool) (w : World) (h0 : 0 ≤ V) (h1 : V < 18446744073709551616) (hs : bits.length + 64 ≤ 524288) (hst : WrSt w base g bits) :
    Calls Try.prog 64 #[.pointer (some ⟨g, 0, none⟩), .int .u64 V, .int .i64 64] w fun e w' => e = .returned (.int .i64 0) ∧ WrSt w' base g (bits ++ bitsOf V.toNat 64) ∧ Kp base 5 g w w' := by
  obtain ⟨v, rfl⟩ := Int.eq_ofNat_of_zero_le h0
  exact put_64 g base v 64 bits w (by omega) (by omega) (by omega) hs hst

/-- What a writer holds while the list is written: all so far, or the limit has been passed. -/
def Full (F : Int) (bits enc : List Bool) : Prop := bits.length ≤ 524288 ∧ ((F = 0 ∧ bits = enc) ∨ (F = 6 ∧ 524288 < enc.length))
theorem Full.step {F e1 e2 : Int} {bits bits1 bits2 enc n1 n2 : List Bool} (h : Full F bits enc) (h1 : (e1 = 0 ∧ bits1 = bits ++ n1) ∨ (e1 = 6 ∧ bits1 = bits ∧ 524288 < bits.length + n1.length))
    (h2 : (e2 = 0 ∧ bits2 = bits1 ++ n2) ∨ (e2 = 6 ∧ bits2 = bits1 ∧ 524288 < bits1.length + n2.length)) (hl : bits2.length ≤ 524288) : Full (max (max F e1) e2) bits2 (enc ++ n1 ++ n2) := by
  refine ⟨hl, ?_⟩
  simp only [List.length_append]
  obtain ⟨_, ⟨rfl, rfl⟩ | ⟨rfl, hF⟩⟩ := h
  · rcases h1 with ⟨rfl, rfl⟩ | ⟨rfl, rfl, h1⟩
    · rcases h2 with ⟨rfl, rfl⟩ | ⟨rfl, rfl, h2⟩
      · left; exact ⟨rfl, rfl⟩
      · right; rw [List.length_append] at h2; exact ⟨rfl, by omega⟩
    · right
      exact ⟨by rcases h2 with ⟨rfl, _⟩ | ⟨rfl, _⟩ <;> rfl, by omega⟩
  · right
    exact ⟨by rcases h1 with ⟨rfl, _⟩ | ⟨rfl, _⟩ <;> rcases h2 with ⟨rfl, _⟩ | ⟨rfl, _⟩ <;> rfl, by omega⟩
theorem max3 (F e1 e2 : Int) : (if (if F < e1 then e1 else F) < e2 then e2 else if F < e1 then e1 else F) = max (max F e1) e2 := by
  by_cases h1 : F < e1
  · rw [if_pos h1]
    by_cases h2 : e1 < e2
    · rw [if_pos h2]; omega
    · rw [if_neg h2]; omega
  · rw [if_neg h1]
    by_cases h2 : F < e2
    · rw [if_pos h2]; omega
    · rw [if_neg h2]; omega
theorem Full.one {F e1 : Int} {bits bits1 enc n1 : List Bool} (h : Full F bits enc) (h1 : (e1 = 0 ∧ bits1 = bits ++ n1) ∨ (e1 = 6 ∧ bits1 = bits ∧ 524288 < bits.length + n1.length)) (hl : bits1.length ≤ 524288) : Full (max F e1) bits1 (enc ++ n1) := by
  refine ⟨hl, ?_⟩
  simp only [List.length_append]
  obtain ⟨_, ⟨rfl, rfl⟩ | ⟨rfl, hF⟩⟩ := h
  · rcases h1 with ⟨rfl, rfl⟩ | ⟨rfl, rfl, h1⟩
    · left; exact ⟨rfl, rfl⟩
    · right; exact ⟨rfl, h1⟩
  · right
    exact ⟨by rcases h1 with ⟨rfl, _⟩ | ⟨rfl, _⟩ <;> rfl, by omega⟩
theorem Full.err {F : Int} {bits enc : List Bool} (h : Full F bits enc) : F = 0 ∨ F = 6 := by
  rcases h.2 with ⟨h, _⟩ | ⟨h, _⟩
  · exact .inl h
  · exact .inr h

def encOk (a b : List Int) : Prop := a.length ≤ 65536 ∧ b.length ≤ 65536 ∧ (encB a b).length ≤ 524288
/-- What delta.Ints returns. -/
def IntsPost (w : World) (a b : List Int) (e : Ending) (w' : World) : Prop :=
  (encOk a b ∧ RetS2 w 5 1 (packB (encB a b)).length (bytesV (packB (encB a b))) 0 e w') ∨ (¬ encOk a b ∧ RetS2 w 5 1 0 [] 2 e w')

set_option maxHeartbeats 1600000 in
theorem ints_any (A A' : Option Addr) (n c n' c' B : Nat) (a b : List Int) (w : World) (hr : Rd w B 1 A n (a.map (Value.int .i64))) (hr' : Rd w B 1 A' n' (b.map (Value.int .i64))) (hn : n = a.length) (hn' : n' = b.length) (hnc : n ≤ 9223372036854775807 ∧ n' ≤ 9223372036854775807) (ha : i64r a) (hb : i64r b) (hB : B ≤ w.heap.size) :
    Calls Try.prog 55 #[.slice A n c, .slice A' n' c'] w (IntsPost w a b) := by
  obtain ⟨hnc1, hnc2⟩ := hnc
  by_cases hbig : 65536 < n ∨ 65536 < n'
  · have hno : ¬ encOk a b := fun h => by have := h.1; have := h.2.1; omega
    have HNO := Lib.hid hno
    clear hr hr' hn hn' hno
    have hcase : 65536 < n ∨ (n ≤ 65536 ∧ 65536 < n') := by omega
    rcases hcase with k1 | ⟨k1, k2⟩
    all_goals
      go_enter Try.func55, Try.ntmps55
      go_wp2_with fail
      go_ret2
      exact .inr ⟨HNO.out, none, 0, rfl, World.ownsRow_nil _ _ _ _, Below.refl _ _⟩
  have k1 : n ≤ 65536 := by omega
  have k2 : n' ≤ 65536 := by omega
  have HR := Lib.hid hr
  have HR' := Lib.hid hr'
  have HN := Lib.hid hn
  have HN' := Lib.hid hn'
  have HA := Lib.hid ha
  have HBB := Lib.hid hb
  clear hr hr' hn hn' ha hb hbig
  go_enter Try.func55, Try.ntmps55
  go_wp2_with fail
  have hb1 := (Below.refl w.heap.size w).alloc (Nat.le_refl _) (.cells #[.slice none 0 0, .int .i64 0] 102)
  have hw1 : WrSt (w.alloc (.cells #[.slice none 0 0, .int .i64 0] 102)) w.heap.size w.heap.size [] := ⟨.slice none 0 0, Bk.new _ _ _, World.ownsRow_nil _ _ _ _, by simp⟩
  generalize w.alloc (.cells #[.slice none 0 0, .int .i64 0] 102) = w1 at *
  have hs1 := hb1.size
  refine (sumInts_any A n c B a w1 (HR.out.below (hb1.mono hB)) HN.out (by omega) (by omega) HA.out).mono ?_
  rintro e w2 ⟨rfl, hb2⟩
  have hw2 := hw1.keep hb2
  have hbb2 := hb1.trans (hb2.mono hs1)
  have hs2 := hbb2.size
  have hra := sumI_rng a
  clear hw1 hb1 hb2 hs1
  go_wp2_with fail
  refine (put64_i w.heap.size w.heap.size (sumI a) [] w2 hra.1 hra.2 (by simp) hw2).mono ?_
  rintro e w3 ⟨rfl, hw3, hk3⟩
  have hbb3 := hbb2.trans (hk3.below (Nat.le_refl _) hs2)
  have hs3 := hbb3.size
  clear hw2 hk3 hbb2 hs2 hra
  go_wp2_with fail
  refine (sumInts_any A' n' c' B b w3 (HR'.out.below (hbb3.mono hB)) HN'.out (by omega) (by omega) HBB.out).mono ?_
  rintro e w4 ⟨rfl, hb4⟩
  have hw4 := hw3.keep hb4
  have hbb4 := hbb3.trans (hb4.mono hs3)
  have hs4 := hbb4.size
  have hrb := sumI_rng b
  clear hw3 hb4 hbb3 hs3
  go_wp2_with fail
  refine (put64_i w.heap.size w.heap.size (sumI b) _ w4 hrb.1 hrb.2 (by simp [bitsOf_length]) hw4).mono ?_
  rintro e w5 ⟨rfl, hw5, hk5⟩
  have hbb5 := hbb4.trans (hk5.below (Nat.le_refl _) hs4)
  have hs5 := hbb5.size
  clear hw4 hk5 hbb4 hs4 hrb
  have hgl := grp_le n' (by omega)
  have hnat := wnat_ok w.heap.size w.heap.size n' _ w5 (by omega) (by rw [natB_length]; simp [bitsOf_length]; omega) hw5
  have HNAT := Lib.hid hnat
  clear hnat hgl
  go_wp2_with fail
  refine HNAT.out.mono ?_
  rintro e w6 ⟨rfl, hw6, hk6⟩
  have hbb6 := hbb5.trans (hk6.below (Nat.le_refl _) hs5)
  have hs6 := hbb6.size
  have HENC : Hid (([] ++ bitsOf (sumI a).toNat 64 ++ bitsOf (sumI b).toNat 64) ++ natB n' = encH a b) := Lib.hid (by rw [HN'.out]; rfl)
  rw [HENC.out] at hw6
  have HL6 : Hid ((encH a b).length ≤ 524288) := Lib.hid (by
    have hgl := grp_le n' (by omega)
    unfold encH
    rw [← HN'.out, List.length_append, List.length_append, bitsOf_length, bitsOf_length, natB_length]; omega)
  clear hw5 hk6 hbb5 hs5 HENC HNAT
  go_wp2_with fail
  obtain ⟨B0, hB0⟩ : ∃ B0, B0 = w.heap.size := ⟨_, rfl⟩
  rw [← hB0] at hbb6 hw6 hs6 hB ⊢
  have HB0 := Lib.hid hB0
  clear hB0
  go_loopw [7, 8, 36] (fun sa fu v wr => ∃ (k S : Nat) (F : Int) (bits : List Bool), k ≤ n' ∧ v = .int .i64 k ∧ sa = .int .i64 S ∧ fu = .int .i64 F ∧ S ≤ k ∧ Hid (S = (encTo a b (encH a b) k).1) ∧ Hid (Full F bits (encTo a b (encH a b) k).2) ∧ WrSt wr B0 B0 bits ∧ Below B0 w wr) (fun _ _ v _ => n' - (intOf v).toNat)
  case atStart => exact ⟨0, 0, 0, encH a b, Nat.zero_le _, rfl, rfl, rfl, Nat.le_refl _, Lib.hid rfl, Lib.hid ⟨HL6.out, .inl ⟨rfl, rfl⟩⟩, hw6, hbb6⟩
  case round =>
    obtain ⟨k, S, F, bits, hk, rfl, rfl, rfl, hSk, HS, HF, hwr, hb⟩ := hrel
    have hsz : B0 ≤ wr.heap.size := by have := hb.size; have := HB0.out; omega
    clear hw6 hbb6 hs6
    by_cases hlt : k < n'
    · obtain ⟨x, hx⟩ : ∃ x, b[k]? = some x := ⟨_, List.getElem?_eq_getElem (by have := HN'.out; omega)⟩
      obtain ⟨xb, xo, rfl, _, hcx⟩ := (HR'.out.below (hb.mono hB)).at1 hlt (u := .int .i64 x) (by rw [List.getElem?_map, hx]; rfl)
      have hget : b.getD k 0 = x := by simp [List.getD, hx]
      have hba := base_any A n c B k a wr (HR.out.below (hb.mono hB)) HN.out (by omega) (by omega)
      have HBA := Lib.hid hba
      obtain ⟨y, hy⟩ : ∃ y, y = bse a k := ⟨_, rfl⟩
      have HY := Lib.hid hy
      have HG := Lib.hid hget
      rw [← hy] at hba
      replace HBA := Lib.hid hba
      clear hba hy hget hx
      go_wp2_with fail
      refine HBA.out.mono ?_
      rintro e w7 ⟨rfl, rfl⟩
      by_cases hxy : (x == y) = true
      · have hnx : encTo a b (encH a b) (k + 1) = (S + 1, (encTo a b (encH a b) k).2) := by
          have : b.getD k 0 = bse a k := by rw [HG.out, ← HY.out]; simpa using hxy
          rw [encTo, if_pos this, ← HS.out]
        have HNX := Lib.hid hnx
        clear hnx
        go_wp2_with fail
        go_roundw
        case rel => exact ⟨k + 1, S + 1, F, bits, by omega, by go_num, by go_num, rfl, by omega, Lib.hid (by rw [HNX.out]), Lib.hid (by rw [HNX.out]; exact HF.out), hwr, hb⟩
        case measure => simp [intOf]; omega
      · have hxy' : (x == y) = false := by simpa using hxy
        have hnx : encTo a b (encH a b) (k + 1) = (0, (encTo a b (encH a b) k).2 ++ natB S ++ natB (zig (wrap64 (x - y)))) := by
          have : ¬ b.getD k 0 = bse a k := by rw [HG.out, ← HY.out]; simpa using hxy
          rw [encTo, if_neg this, ← HS.out, HG.out, ← HY.out]
        have HNX := Lib.hid hnx
        clear hnx hxy
        go_wp2_with fail
        refine (wnat_any B0 B0 S bits _ (by omega) HF.out.1 hwr).mono ?_
        rintro e w8 ⟨err1, bits1, rfl, hw8, hk8, hl8, h8⟩
        have hb8 := hb.trans (hk8.below (Nat.le_refl _) hsz)
        have hs8 : B0 ≤ w8.heap.size := by have := hb8.size; have := HB0.out; omega
        have H8 := Lib.hid h8
        have hba := base_any A n c B k a w8 (HR.out.below (hb8.mono hB)) HN.out (by omega) (by omega)
        rw [← HY.out] at hba
        have HBA := Lib.hid hba
        clear h8 hwr hk8 hb hba
        go_wp2_with fail
        refine HBA.out.mono ?_
        rintro e w9 ⟨rfl, rfl⟩
        go_wp2_with fail
        have hwr9 : -9223372036854775808 ≤ wrap64 (x - y) ∧ wrap64 (x - y) ≤ 9223372036854775807 := by unfold wrap64; omega
        refine (wint_any B0 B0 (wrap64 (x - y)) bits1 _ hwr9.1 hwr9.2 hl8 hw8).mono ?_
        rintro e w10 ⟨err2, bits2, rfl, hw10, hk10, hl10, h10⟩
        have hb10 := hb8.trans (hk10.below (Nat.le_refl _) hs8)
        have hfull := HF.out.step H8.out h10 hl10
        have HFULL := Lib.hid hfull
        clear hwr9 hw8 hk10 h10 hfull hb8 hl8
        go_wp2_with fail
        go_roundw
        case rel => exact ⟨k + 1, 0, _, bits2, by omega, by go_num, rfl, rfl, by omega, Lib.hid (by rw [HNX.out]), Lib.hid (by rw [HNX.out, max3]; exact HFULL.out), hw10, hb10⟩
        case measure => simp [intOf]; omega
    · obtain rfl : k = n' := by omega
      have hend : ∀ (F' : Int) (bits' : List Bool), Full F' bits' (encB a b) → (F' = 0 ∧ bits' = encB a b ∧ encOk a b ∧ bits'.length ≤ 524288) ∨ (F' = 6 ∧ ¬ encOk a b) := fun F' bits' h => by
        have h1 := HN.out
        have h2 := HN'.out
        obtain ⟨h3, ⟨h4, h5⟩ | ⟨h4, h5⟩⟩ := h
        · left; exact ⟨h4, h5, ⟨by omega, by omega, by rw [← h5]; exact h3⟩, h3⟩
        · right; exact ⟨h4, fun h => by have := h.2.2; omega⟩
      have HEND := Lib.hid hend
      have henc : encB a b = encEnd (encTo a b (encH a b) k) := by unfold encB; rw [← HN'.out]
      clear hend
      by_cases hS : 0 < S
      · have he2 : encB a b = (encTo a b (encH a b) k).2 ++ natB S := by
          rw [henc]; unfold encEnd; rw [← HS.out, if_pos hS]
        have HE2 := Lib.hid he2
        clear he2 henc
        go_wp2_with fail
        refine (wnat_any B0 B0 S bits _ (by omega) HF.out.1 hwr).mono ?_
        rintro e w8 ⟨err1, bits1, rfl, hw8, hk8, hl8, h8⟩
        have hb8 := hb.trans (hk8.below (Nat.le_refl _) hsz)
        have hfull := HF.out.one h8 hl8
        rw [← HE2.out] at hfull
        have hcase := HEND.out _ _ hfull
        clear hfull hwr hk8 hb h8
        rcases hcase with ⟨hmx, hbe, hok, hbl⟩ | ⟨hmx, hno⟩
        · have HOK := Lib.hid hok
          have HBE := Lib.hid hbe
          clear hbe hok
          go_wp2_with fail
          refine (wbytes_any B0 B0 bits1 w8 hw8 hbl).mono ?_
          rintro e w9 ⟨A9, c9, rfl, hown9, hb9⟩
          have hb8s : B0 ≤ w8.heap.size := by have := hb8.size; have := HB0.out; omega
          go_wp2_with fail
          go_ret2
          refine .inl ⟨HOK.out, A9, c9, ?_, ?_, ?_⟩
          · rw [← HBE.out]; rfl
          · rw [← HB0.out, ← HBE.out]; exact own_mono hown9 hb8s
          · rw [← HB0.out]; exact hb8.trans (hb9.mono hb8s)
        · have HNO := Lib.hid hno
          clear hno
          go_wp2_with fail
          go_ret2
          exact .inr ⟨HNO.out, none, 0, rfl, World.ownsRow_nil _ _ _ _, by rw [← HB0.out]; exact hb8⟩
      · have he2 : encB a b = (encTo a b (encH a b) k).2 := by
          rw [henc]; unfold encEnd; rw [← HS.out, if_neg hS]
        have hcase := HEND.out F bits (by rw [he2]; exact HF.out)
        clear he2 henc HF
        rcases hcase with ⟨rfl, hbe, hok, hbl⟩ | ⟨rfl, hno⟩
        · have HOK := Lib.hid hok
          have HBE := Lib.hid hbe
          clear hbe hok
          go_wp2_with fail
          refine (wbytes_any B0 B0 bits wr hwr hbl).mono ?_
          rintro e w9 ⟨A9, c9, rfl, hown9, hb9⟩
          go_wp2_with fail
          go_ret2
          refine .inl ⟨HOK.out, A9, c9, ?_, ?_, ?_⟩
          · rw [← HBE.out]; rfl
          · rw [← HB0.out, ← HBE.out]; exact own_mono hown9 hsz
          · rw [← HB0.out]; exact hb.trans (hb9.mono hsz)
        · have HNO := Lib.hid hno
          clear hno
          go_wp2_with fail
          go_ret2
          exact .inr ⟨HNO.out, none, 0, rfl, World.ownsRow_nil _ _ _ _, by rw [← HB0.out]; exact hb⟩
end Go.Proofs.Ytlgcdcjfobfoiaa
