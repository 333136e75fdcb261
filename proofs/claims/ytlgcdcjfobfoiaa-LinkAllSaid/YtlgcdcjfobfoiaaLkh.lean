/-
  A packet is read as what was written; the law's delivers. Conditions: none.
-/
import Derived.Test.YtlgcdcjfobfoiaaLkg
namespace Go.Proofs.Ytlgcdcjfobfoiaa
open Go.RowKit
set_option maxRecDepth 100000

theorem bigB_2 (n : Nat) : bigB n 2 = [n / 256 % 256, n % 256] := by simp [bigB]
theorem bigB_4 (n : Nat) : bigB n 4 = [n / 16777216 % 256, n / 65536 % 256, n / 256 % 256, n % 256] := by simp [bigB]
theorem val4_big (n : Nat) (r : List Nat) (h : n < 4294967296) : val4 (bigB n 4 ++ r) = n := by
  rw [bigB_4]; simp [val4]; omega
theorem lenB_big (n : Nat) (r : List Nat) (h : n < 65536) : lenB (bigB n 2 ++ r) = n := by
  rw [bigB_2]; simp [lenB]; omega
theorem parseB_msgs (L : List (List Nat)) (r : List Nat) (h : ∀ m ∈ L, m.length < 65536) : parseB L.length (L.flatMap msgB ++ r) = some (L, r) := by
  induction L with
  | nil => simp [parseB]
  | cons m L ih =>
    have h1 := h m (by simp)
    have e : (m :: L).flatMap msgB ++ r = bigB m.length 2 ++ (m ++ (L.flatMap msgB ++ r)) := by simp [msgB]
    have hd : (bigB m.length 2 ++ (m ++ (L.flatMap msgB ++ r))).drop (2 + m.length) = L.flatMap msgB ++ r := by
      rw [← List.drop_drop, List.drop_left' (bigB_length _ _), List.drop_left' rfl]
    have hm : ((bigB m.length 2 ++ (m ++ (L.flatMap msgB ++ r))).drop 2).take m.length = m := by
      rw [List.drop_left' (bigB_length _ _), List.take_left' rfl]
    rw [List.length_cons, parseB, e, lenB_big _ _ h1, if_neg (by simp [bigB_length]), hd, hm, ih fun x hx => h x (by simp [hx])]
    rfl
/-- A packet is read as what was written. -/
theorem openR_pkt (next first : Nat) (W : List (List Nat)) (h1 : next < 4294967296) (h2 : first < 4294967296) (h3 : ∀ m ∈ W, m.length < 65536) : openR (pktB next first W) = ((next, first, W.take 8), 0) := by
  obtain ⟨s, hs⟩ : ∃ s, s = bigB (sumBy (bodyB next first W)).toNat 8 := ⟨_, rfl⟩
  have hsl : s.length = 8 := by rw [hs, bigB_length]
  have hp : pktB next first W = bodyB next first W ++ s := by rw [hs]; rfl
  have hbl : 9 ≤ (bodyB next first W).length := by unfold bodyB; rw [List.length_append, headB_length]; omega
  have hlen : (pktB next first W).length = (bodyB next first W).length + 8 := by rw [hp, List.length_append, hsl]
  have hb : bodyO (pktB next first W) = bodyB next first W := by
    unfold bodyO; rw [hlen, Nat.add_sub_cancel, hp, List.take_left' rfl]
  have hd : (pktB next first W).drop ((pktB next first W).length - 8) = bigB (sumBy (bodyO (pktB next first W))).toNat 8 := by
    rw [hb, ← hs, hlen, Nat.add_sub_cancel, hp, List.drop_left' rfl]
  have hbody : bodyB next first W = bigB next 4 ++ (bigB first 4 ++ (min W.length 8 :: (W.take 8).flatMap msgB)) := by
    simp [bodyB, headB]
  have h8 : (bodyB next first W).getD 8 0 = (W.take 8).length := by
    rw [hbody, bigB_4, bigB_4, List.length_take]; simp; try omega
  have h9 : (bodyB next first W).drop 9 = (W.take 8).flatMap msgB ++ [] := by
    rw [hbody, bigB_4, bigB_4]; simp
  have hpar : parseB ((bodyO (pktB next first W)).getD 8 0) ((bodyO (pktB next first W)).drop 9) = some (W.take 8, []) := by
    rw [hb, h8, h9]; exact parseB_msgs _ _ fun m hm => h3 m (List.mem_of_mem_take hm)
  rw [openR_ok (by omega) hd hpar (by rw [hb, h8]; simp; omega), hb]
  rw [hbody, val4_big _ _ h1, List.drop_left' (bigB_length _ _), val4_big _ _ h2]
theorem inR_seven : inR 0 0 [] [] (pktB 0 0 [[7]]) = ((0, 1, [], [[7]]), 0) := by
  have h := openR_pkt 0 0 [[7]] (by omega) (by omega) (by simp)
  rw [inR_ok (by rw [h]) (by rw [h]; simp), h]
  simp [dvN]
theorem seven_ok (w : World) : MsOk (w.alloc (.cells #[.int .u8 7] 5)) ⟨some ⟨w.heap.size, 0, none⟩, 1, 1, [7]⟩ :=
  ⟨Tr.one w 7, rfl, Nat.le_refl _, by show 1 ≤ 9223372036854775807; omega, by simp⟩

set_option maxHeartbeats 1600000 in
theorem delivers_any (w : World) : Calls Try.prog 43 #[] w fun e w' => e = .returned (.bool true) ∧ Below w.heap.size w w' := by
  obtain ⟨B0, hB0⟩ : ∃ B0, B0 = w.heap.size := ⟨_, rfl⟩
  rw [← hB0]
  go_enter Try.func43, Try.ntmps43
  go_wp2_with fail
  refine (linkNew_any _).mono ?_
  rintro e w1 ⟨rfl, hw1⟩
  have hE1 : EndS w1 B0 [w.heap.size] w.heap.size 0 0 [] [] := by rw [hw1]; exact EndS.new w B0 (by omega)
  have hb1 : Below B0 w w1 := by rw [hw1]; exact (Below.refl B0 w).alloc (by omega) _
  have hs1 : w1.heap.size = w.heap.size + 1 := by rw [hw1]; simp
  clear hw1
  go_wp2_with fail
  refine (linkNew_any _).mono ?_
  rintro e w2 ⟨rfl, hw2⟩
  have hE2 : EndS w2 B0 [w1.heap.size] w1.heap.size 0 0 [] [] := by rw [hw2]; exact EndS.new w1 B0 (by omega)
  have hb2 : Below B0 w w2 := by rw [hw2]; exact hb1.alloc (by omega) _
  have hE1' : EndS w2 B0 [w.heap.size] w.heap.size 0 0 [] [] := hE1.below (by rw [hw2]; exact (Below.refl _ _).alloc (Nat.le_refl _) _)
  have hs2 : w2.heap.size = w1.heap.size + 1 := by rw [hw2]; simp
  have HBA : Hid (w1.heap.size ≠ w.heap.size ∧ B0 ≤ w2.heap.size ∧ w1.heap.size < w2.heap.size ∧ w.heap.size < w2.heap.size) := Lib.hid ⟨by omega, by omega, by omega, by omega⟩
  have HE1 := Lib.hid (hE1'.below ((Below.refl _ _).alloc (Nat.le_refl _) (.cells #[.int .u8 7] 5)))
  have HE2 := Lib.hid (hE2.below ((Below.refl _ _).alloc (Nat.le_refl _) (.cells #[.int .u8 7] 5)))
  have HB2 := Lib.hid (hb2.alloc HBA.out.2.1 (.cells #[.int .u8 7] 5))
  have HS := Lib.hid (seven_ok w2)
  clear hw2 hE1 hE2 hE1' hs1 hs2 hb1 hb2 hB0
  go_wp2_with fail
  refine (send_any ⟨some ⟨w2.heap.size, 0, none⟩, 1, 1, [7]⟩ _ (by show 1 ≤ 1000; omega) HS.out (by simp) (by have := HBA.out.2.1; simp; omega) HE1.out).mono ?_
  rintro e w3 ⟨F3, rfl, hE3, hsub3, hq3⟩
  have hE23 := HE2.out.fq hq3 (fun k hk hk2 => by simp at hk hk2; have := HBA.out; omega)
  have hbF : ∀ k ∈ [w.heap.size], B0 ≤ k := fun k hk => (HE1.out.lt k hk).1
  have hbb3 : Below B0 w w3 := HB2.out.trans (hq3.below hbF (by have := HBA.out; simp; omega))
  have hF3 : ∀ k ∈ F3, k ≠ w1.heap.size := fun k hk => by
    rcases hsub3 k hk with h | h
    · simp at h; have := HBA.out; omega
    · simp at h; have := HBA.out; omega
  have hsz3 : w2.heap.size ≤ w3.heap.size := by have := hq3.size; simp at this; omega
  simp only [List.nil_append] at hE3
  have HE3 := Lib.hid hE3
  have HE23 := Lib.hid hE23
  have HF3 := Lib.hid hF3
  have HBB3 := Lib.hid hbb3
  have HSZ3 := Lib.hid hsz3
  clear HE1 HE2 HB2 HS hE3 hE23 hsub3 hq3 hbF hbb3 hF3 hsz3
  go_wp2_with fail
  refine (out_any w3 HE3.out (by simp) (by omega) (by omega)).mono ?_
  rintro e w4 ⟨A4, c4, rfl, hown4, hb4⟩
  have hE4 := HE3.out.below hb4
  have hE24 := HE23.out.below hb4
  have hcap4 := own_cap hown4
  have hin := in_any A4 _ c4 (pktB 0 0 [[7]]) w4 hE24 (Rd.of_own hown4) rfl hcap4.1 hcap4.2 (pktB_lt 0 0 _ (by simp)) (by have := hb4.size; have := HBA.out; have := HSZ3.out; omega) (by simp) (by omega) (by simp)
  rw [inR_seven] at hin
  have HIN := Lib.hid hin
  have HE4 := Lib.hid hE4
  have hbb4 := HBB3.out.trans (hb4.mono (by have := HBA.out; have := HSZ3.out; omega))
  have HBB4 := Lib.hid hbb4
  have HSZ4 : Hid (w2.heap.size ≤ w4.heap.size) := Lib.hid (by have := hb4.size; have := HSZ3.out; omega)
  have HBLOW : Hid (∀ k ∈ [w1.heap.size], B0 ≤ k) := Lib.hid fun k hk => (hE24.lt k hk).1
  clear hE4 hE24 hcap4 hin hb4 hown4 hbb4 HE3 HE23 HBB3 HSZ3
  generalize (pktB 0 0 [[7]]).length = pn at *
  go_wp2_with fail
  refine HIN.out.mono ?_
  rintro e w5 ⟨F5, rfl, hE5, hsub5, hq5⟩
  have hE15 := HE4.out.fq hq5 (fun k hk hk2 => by simp at hk2; exact HF3.out k hk hk2)
  have hbb5 := HBB4.out.trans (hq5.below HBLOW.out (by have := HBA.out; have := HSZ4.out; omega))
  have hlowF3 := HE4.out.lt
  have hd5 : ∀ k ∈ F5, k ∉ F3 := fun k hk hk2 => by
    rcases hsub5 k hk with h | h
    · simp at h; exact HF3.out k hk2 h
    · have := (hlowF3 k hk2).2; omega
  have hsz5 := hq5.size
  have HE5 := Lib.hid hE5
  have HE15 := Lib.hid hE15
  have HBB5 := Lib.hid hbb5
  have HD5 := Lib.hid hd5
  have HSZ5 : Hid (w2.heap.size ≤ w5.heap.size) := Lib.hid (by have := HSZ4.out; omega)
  clear hE5 hE15 hbb5 hlowF3 hd5 hsub5 hq5 hsz5 HIN HE4 HBB4 HBLOW HSZ4
  go_wp2_with fail
  refine (linkGot_any w5 HE5.out).mono ?_
  rintro e w6 ⟨Gs, A6, c6, F6, rfl, hGs, htr, hok, hA, hE6, hsub6, hq6⟩
  have hE16 := HE15.out.fq hq6 (fun k hk hk2 => HD5.out k hk2 hk)
  have hbb6 := HBB5.out.trans (hq6.below (fun k hk => (HE5.out.lt k hk).1) (by have := HBA.out; have := HSZ5.out; omega))
  obtain ⟨m, rfl⟩ : ∃ m, Gs = [m] := by
    have h1 : Gs.length = 1 := by have := congrArg List.length hGs; simpa using this
    exact List.length_eq_one_iff.1 h1
  have hmd : m.dat = [7] := by simpa using hGs
  obtain ⟨xb, xo, rfl, _, cx⟩ := htr.rd.at1 (k := 0) (by simp) (msV_get (m := m) rfl)
  rw [Nat.add_zero] at cx
  have hokm := hok m (by simp)
  have HEQ := Lib.hid (bytesEqual_any m.A (some ⟨w6.heap.size, 0, none⟩) m.n m.c 1 1 (w6.alloc (.cells #[.int .u8 7] 5)).heap.size m.dat [7] (w6.alloc (.cells #[.int .u8 7] 5)) hokm.lt (by simp) (hokm.below ((Below.refl _ _).alloc (Nat.le_refl _) _)).tr.rd (seven_ok w6).tr.rd)
  rw [decide_eq_true hmd] at HEQ
  have HE16 := Lib.hid (hE16.below ((Below.refl _ _).alloc (Nat.le_refl _) (.cells #[.int .u8 7] 5)))
  have HBB6 := Lib.hid (hbb6.alloc (by have := HBA.out; have := HSZ5.out; have := hq6.size; omega) (.cells #[.int .u8 7] 5))
  clear hGs htr hok hA hE6 hsub6 hq6 hE16 hbb6 hmd hokm
  generalize m.A = mA at *
  generalize m.n = mn at *
  generalize m.c = mc at *
  go_wp2_with fail
  refine HEQ.out.mono ?_
  rintro e w7 ⟨rfl, rfl⟩
  go_wp2_with fail
  refine (waiting_any _ HE16.out).mono ?_
  rintro e w8 ⟨rfl, rfl⟩
  go_wp2_with fail
  go_ret
  exact ⟨rfl, HBB6.out⟩
end Go.Proofs.Ytlgcdcjfobfoiaa
