/-
  The walks of the laws InputBack and InputLess. Conditions: numbers that fit their kinds.
-/
import Derived.Test.YtlgcdcjfobfoiaaPl
import Derived.Test.YtlgcdcjfobfoiaaMk
namespace Go.Proofs.Ytlgcdcjfobfoiaa
open Go.RowKit
set_option maxRecDepth 100000

set_option maxHeartbeats 1600000 in
theorem packed_fact4 (w : World) : Calls Try.prog 38 #[] w fun e w' => e = .returned (.bool true) ∧ Below w.heap.size w w' := by
  go_enter Try.func38, Try.ntmps38
  go_wp2_with fail
  have hA : Rd ((w.alloc (.cells #[.int .i64 0, .int .i64 0, .int .i64 0] 24)).alloc (.cells #[.int .i64 1, .int .i64 0, .int .i64 0] 24)) (w.heap.size + 2) 3 (some ⟨w.heap.size, 0, none⟩) 1 (inCs [i0]) :=
    (((Rd.new w 24 1 3 #[.int .i64 0, .int .i64 0, .int .i64 0] rfl).keep (fun b hb => Below.heap_alloc _ _ _ (by simpa using hb))).more (by omega))
  have hB : Rd ((w.alloc (.cells #[.int .i64 0, .int .i64 0, .int .i64 0] 24)).alloc (.cells #[.int .i64 1, .int .i64 0, .int .i64 0] 24)) (w.heap.size + 2) 3 (some ⟨w.heap.size + 1, 0, none⟩) 1 (inCs [i1]) := by
    have := Rd.new (w.alloc (.cells #[.int .i64 0, .int .i64 0, .int .i64 0] 24)) 24 1 3 #[.int .i64 1, .int .i64 0, .int .i64 0] rfl
    simpa [inCs, Inp.cs, i1] using this
  have hp := pack_good (some ⟨w.heap.size, 0, none⟩) (some ⟨w.heap.size + 1, 0, none⟩) 1 1 1 1 (w.heap.size + 2) [i0] [i1] _ rfl rfl (by decide) rfl hA hB (by simp) (by decide) (by decide) (by decide)
  rw [pk01] at hp
  refine hp.mono ?_
  rintro e w1 ⟨A1, c1, rfl, hown1, hb1⟩
  clear hp hA hB
  have hbw : Below w.heap.size w w1 := (((Below.refl w.heap.size w).alloc (Nat.le_refl _) _).alloc (by simp) _).trans (hb1.mono (by simp; omega))
  clear hown1 hb1
  go_wp2_with fail
  go_ret
  exact ⟨rfl, hbw⟩

theorem below_drewN {B : Nat} {a w : World} (h : Below B a w) (n : Nat) : Below B a (w.drewN n) := ⟨h.os, h.tape, h.output, h.size, h.block⟩

theorem Rd.take1 {w : World} {B n j : Nat} {A : Option Addr} {l : List Nat} (h : Rd w B 1 A n (bytesV l)) (hj : j ≤ n) : Rd w B 1 A j (bytesV (l.take j)) := by
  have hl := h.1
  rw [bytesV_length] at hl
  refine ⟨by rw [bytesV_length, List.length_take]; omega, fun h0 => ?_⟩
  obtain ⟨b, o, rfl, hb, hc⟩ := h.2 (by omega)
  refine ⟨b, o, rfl, hb, fun i u hu => hc i u ?_⟩
  rw [show bytesV (l.take j) = (bytesV l).take j by simp [bytesV, List.map_take]] at hu
  rw [List.getElem?_take] at hu
  split at hu
  · exact hu
  · cases hu

theorem errFs_good {l l' : List Inp} {N : Nat} (h1 : 1 ≤ N) (h8 : N ≤ 8) (hl : l.length = N) (hl' : l'.length = N) (hg : ∀ i ∈ l, ¬ i.bad) (hg' : ∀ i ∈ l', ¬ i.bad) : errFs l l' = 0 := by
  unfold errFs
  rw [if_pos (good_errF (n := l.length) (by omega) (by omega) rfl hg)]
  exact good_errF (by omega) (by omega) (by omega) hg'
theorem unp_good {l l' : List Inp} {N : Nat} (h1 : 1 ≤ N) (h8 : N ≤ 8) (hl : l.length = N) (hl' : l'.length = N) (hg : ∀ i ∈ l, ¬ i.bad) (hg' : ∀ i ∈ l', ¬ i.bad) : unp l (packB (packBits l l')) = (l', 0) := by
  have h := parse_pack [] (hl.trans hl'.symm) hg hg'
  rw [List.append_nil] at h
  unfold unp
  rw [if_neg (by rw [good_errF (n := l.length) (by omega) (by omega) rfl hg]; simp), h]
  simp
theorem unp_less {l l' : List Inp} {N : Nat} (h1 : 1 ≤ N) (h8 : N ≤ 8) (hl : l.length = N) (hl' : l'.length = N) (hg : ∀ i ∈ l, ¬ i.bad) (hg' : ∀ i ∈ l', ¬ i.bad) {j : Nat} (hj : j < (packB (packBits l l')).length) : unp l ((packB (packBits l l')).take j) = ([], 14) := by
  unfold unp
  rw [if_neg (by rw [good_errF (n := l.length) (by omega) (by omega) rfl hg]; simp), parse_less (hl.trans hl'.symm) hg hg' hj]
theorem unp_more {l l' : List Inp} {N : Nat} (h1 : 1 ≤ N) (h8 : N ≤ 8) (hl : l.length = N) (hl' : l'.length = N) (hg : ∀ i ∈ l, ¬ i.bad) (hg' : ∀ i ∈ l', ¬ i.bad) : unp l (packB (packBits l l') ++ [0]) = ([], 3) := by
  have h := parse_pack [0] (hl.trans hl'.symm) hg hg'
  unfold unp
  rw [if_neg (by rw [good_errF (n := l.length) (by omega) (by omega) rfl hg]; simp), h]
  simp

set_option maxHeartbeats 3200000 in
theorem inputBack_walk (pl : Int) (A A' : Option Addr) (n c n' c' B : Nat) (zs zs' : List Int) (w : World) (hpl : (Lit.int .i64 pl).wf = true)
    (hn : n = zs.length) (hnc : n ≤ c) (hc : c ≤ 9223372036854775807) (hr : Rd w B 1 A n (zs.map (Value.int .i64))) (hwf : ∀ z ∈ zs, (Lit.int .i64 z).wf = true)
    (hn' : n' = zs'.length) (hnc' : n' ≤ c') (hc' : c' ≤ 9223372036854775807) (hr' : Rd w B 1 A' n' (zs'.map (Value.int .i64))) (hwf' : ∀ z ∈ zs', (Lit.int .i64 z).wf = true) (hB : B ≤ w.heap.size) :
    Calls Try.prog 7 #[.int .i64 pl, .slice A n c, .slice A' n' c'] w fun e w' => e = .returned (.bool true) ∧ Below w.heap.size w w' := by
  have HBl := Lib.hid (below_any pl 8 w hpl (by decide) (by decide))
  have hm0 := Int.emod_nonneg pl (show (8 : Int) ≠ 0 by decide)
  have hm1 := Int.emod_lt_of_pos pl (show (0 : Int) < 8 by decide)
  generalize pl % 8 = V at HBl hm0 hm1
  obtain ⟨N, hN⟩ : ∃ N : Nat, 1 + V = (N : Int) := ⟨(1 + V).toNat, by omega⟩
  have hN1 : 1 ≤ N := by omega
  have hN8 : N ≤ 8 := by omega
  have HI1 := Lib.hid (inputs_any N A n c B zs w hN8 hn hnc hc hr hB hwf)
  have HI2 := Lib.hid (fun (wx : World) (hb : Below w.heap.size w wx) => inputs_any N A' n' c' B zs' wx hN8 hn' hnc' hc' (hr'.below (hb.mono hB)) (by have := hb.size; omega) hwf')
  clear hn hnc hc hr hwf hn' hnc' hc' hr' hwf' hpl
  go_enter Try.func7, Try.ntmps7
  go_wp2_with fail
  refine HBl.out.mono ?_
  rintro e w0 ⟨rfl, rfl⟩
  go_wp2_with fail
  refine HI1.out.mono ?_
  rintro e w1 ⟨la, hla, hga, A1, c1, rfl, ho1, hb1⟩
  go_wp2_with fail
  refine (HI2.out w1 hb1).mono ?_
  rintro e w2 ⟨lb, hlb, hgb, A2, c2, rfl, ho2, hb2⟩
  have hs1 := hb1.size
  have hbb2 := hb1.trans (hb2.mono hs1)
  have hs2 := hbb2.size
  have hE := errFs_good hN1 hN8 hla hlb hga hgb
  have hE2 := errFs_good hN1 hN8 hla hla hga hga
  have HP := Lib.hid (pack_good A1 A2 N c1 N c2 w2.heap.size la lb w2 hla.symm hlb.symm hN8 rfl ((own_rd ho1 hb2).more hb2.size) (Rd.of_own ho2) (Nat.le_refl _) hE hga hgb)
  have HP2 := Lib.hid (fun (wx : World) (hb : Below w2.heap.size w2 wx) => pack_good A1 A1 N c1 N c1 wx.heap.size la la wx hla.symm hla.symm hN8 rfl ((own_rd ho1 (hb2.trans (hb.mono hb2.size))).more (by have := hb2.size; have := hb.size; omega)) ((own_rd ho1 (hb2.trans (hb.mono hb2.size))).more (by have := hb2.size; have := hb.size; omega)) (Nat.le_refl _) hE2 hga hga)
  have hlt := (packB_lt (packBits la lb)).1
  have hlen := packB_length (packBits la lb)
  have hle := packBits_le la lb
  rw [hlb] at hle
  have hU := fun (wx : World) (A5 : Option Addr) (c5 : Nat) (hb : Below w2.heap.size w2 wx) (r5 : Rd wx wx.heap.size 1 A5 (packB (packBits la lb)).length (bytesV (packB (packBits la lb)))) =>
    unpack_any A1 A5 N c1 (packB (packBits la lb)).length c5 wx.heap.size la (packB (packBits la lb)) wx hla.symm rfl (by omega) (by omega) hlt ((own_rd ho1 (hb2.trans (hb.mono hb2.size))).more (by have := hb2.size; have := hb.size; omega)) r5 (Nat.le_refl _)
  rw [unp_good hN1 hN8 hla hlb hga hgb] at hU
  dsimp only at hU
  have HU := Lib.hid hU
  have HEq := Lib.hid (fun (wx : World) (A6 : Option Addr) (c6 : Nat) (hb : Below w2.heap.size w2 wx) (r6 : Rd wx wx.heap.size 3 A6 lb.length (inCs lb)) =>
    equalInp_any A6 A2 lb.length c6 N c2 wx.heap.size lb lb wx rfl hlb.symm (by omega) r6 ((own_rd ho2 hb).more (by have := hb.size; omega)))
  have hdl : decide (lb = lb) = true := by simp
  have hsame : packB (packBits la la) = [0] := by rw [packBits_same, hla, packB_same hN1 hN8]
  rw [hsame] at HP2
  have hlN : (packB (packBits la lb)).length * 8 ≤ 26 * N + 7 := by omega
  clear hU hE hE2 hlt hlen hle hsame HI1 HI2 HBl
  generalize packB (packBits la lb) = L at *
  have HLB := Lib.hid hlb
  clear hla hlb hga hgb
  go_wp2_with fail
  refine HP.out.mono ?_
  rintro e w3 ⟨A3, c3, rfl, ho3, hb3⟩
  go_wp2_with fail
  refine (HU.out w3 A3 c3 hb3 (Rd.of_own ho3)).mono ?_
  rintro e w4 ⟨A4, c4, rfl, ho4, hb4⟩
  have hb24 := hb3.trans (hb4.mono hb3.size)
  go_wp2_with fail
  refine (HP2.out w4 hb24).mono ?_
  rintro e w5 ⟨A5, c5, rfl, ho5, hb5⟩
  have hb25 := hb24.trans (hb5.mono hb24.size)
  go_wp2_with fail
  refine (packed_fact4 w5).mono ?_
  rintro e w6 ⟨rfl, hb6⟩
  have hb26 := hb25.trans (hb6.mono hb25.size)
  go_wp2_with fail
  have ho4' := own_rd ho4 ((hb5.trans (hb6.mono hb5.size)))
  have hq := HEq.out w6 A4 c4 hb26 (ho4'.more (by have := hb5.size; have := hb6.size; omega))
  rw [hdl] at hq
  refine hq.mono ?_
  rintro e w7 ⟨rfl, mq, rfl⟩
  have hbW : Below w6.heap.size w6 ((w6.drewN mq).alloc (.cells #[.int .u8 0] 5)) := (below_drewN (Below.refl _ _) mq).alloc (Nat.le_refl _) _
  have hr5 : Rd ((w6.drewN mq).alloc (.cells #[.int .u8 0] 5)) (w6.heap.size + 1) 1 A5 1 (bytesV [0]) := (own_rd ho5 (hb6.trans (hbW.mono hb6.size))).more (by have := hb6.size; omega)
  have hr6 : Rd ((w6.drewN mq).alloc (.cells #[.int .u8 0] 5)) (w6.heap.size + 1) 1 (some ⟨w6.heap.size, 0, none⟩) 1 (bytesV [0]) := Rd.new (w6.drewN mq) 5 1 1 #[.int .u8 0] rfl
  have hbe := bytesEqual_any A5 (some ⟨w6.heap.size, 0, none⟩) 1 c5 1 1 (w6.heap.size + 1) [0] [0] _ (by decide) (by decide) hr5 hr6
  simp only [decide_true] at hbe
  have HBE := Lib.hid hbe
  have hbb6 := hbb2.trans (hb26.mono hs2)
  have hfin := hbb6.trans (hbW.mono hbb6.size)
  clear hbe hr5 hr6 hq ho5 ho4' ho4
  go_wp2_with fail
  refine HBE.out.mono ?_
  rintro e w8 ⟨rfl, rfl⟩
  go_wp2_with fail
  go_ret
  exact ⟨rfl, hfin⟩

set_option maxHeartbeats 3200000 in
theorem inputLess_walk (pl cut : Int) (A A' : Option Addr) (n c n' c' B : Nat) (zs zs' : List Int) (w : World) (hpl : (Lit.int .i64 pl).wf = true) (hcut : (Lit.int .i64 cut).wf = true)
    (hn : n = zs.length) (hnc : n ≤ c) (hc : c ≤ 9223372036854775807) (hr : Rd w B 1 A n (zs.map (Value.int .i64))) (hwf : ∀ z ∈ zs, (Lit.int .i64 z).wf = true)
    (hn' : n' = zs'.length) (hnc' : n' ≤ c') (hc' : c' ≤ 9223372036854775807) (hr' : Rd w B 1 A' n' (zs'.map (Value.int .i64))) (hwf' : ∀ z ∈ zs', (Lit.int .i64 z).wf = true) (hB : B ≤ w.heap.size) :
    Calls Try.prog 8 #[.int .i64 pl, .slice A n c, .slice A' n' c', .int .i64 cut] w fun e w' => e = .returned (.bool true) ∧ Below w.heap.size w w' := by
  obtain ⟨i0, hi0, hz0, hz1, hz2⟩ := info_parts T.info5
  have HBl := Lib.hid (below_any pl 8 w hpl (by decide) (by decide))
  have hm0 := Int.emod_nonneg pl (show (8 : Int) ≠ 0 by decide)
  have hm1 := Int.emod_lt_of_pos pl (show (0 : Int) < 8 by decide)
  generalize pl % 8 = V at HBl hm0 hm1
  obtain ⟨N, hN⟩ : ∃ N : Nat, 1 + V = (N : Int) := ⟨(1 + V).toNat, by omega⟩
  have hN1 : 1 ≤ N := by omega
  have hN8 : N ≤ 8 := by omega
  have HI1 := Lib.hid (inputs_any N A n c B zs w hN8 hn hnc hc hr hB hwf)
  have HI2 := Lib.hid (fun (wx : World) (hb : Below w.heap.size w wx) => inputs_any N A' n' c' B zs' wx hN8 hn' hnc' hc' (hr'.below (hb.mono hB)) (by have := hb.size; omega) hwf')
  clear hn hnc hc hr hwf hn' hnc' hc' hr' hwf' hpl
  go_enter Try.func8, Try.ntmps8
  go_wp2_with fail
  refine HBl.out.mono ?_
  rintro e w0 ⟨rfl, rfl⟩
  go_wp2_with fail
  refine HI1.out.mono ?_
  rintro e w1 ⟨la, hla, hga, A1, c1, rfl, ho1, hb1⟩
  go_wp2_with fail
  refine (HI2.out w1 hb1).mono ?_
  rintro e w2 ⟨lb, hlb, hgb, A2, c2, rfl, ho2, hb2⟩
  have hs1 := hb1.size
  have hbb2 := hb1.trans (hb2.mono hs1)
  have hs2 := hbb2.size
  have hE := errFs_good hN1 hN8 hla hlb hga hgb
  have HP := Lib.hid (pack_good A1 A2 N c1 N c2 w2.heap.size la lb w2 hla.symm hlb.symm hN8 rfl ((own_rd ho1 hb2).more hb2.size) (Rd.of_own ho2) (Nat.le_refl _) hE hga hgb)
  have hlt := (packB_lt (packBits la lb)).1
  have hlen := packB_length (packBits la lb)
  have hle := packBits_le la lb
  have hge := packBits_ge (hla.trans hlb.symm)
  rw [hlb] at hle
  rw [hla] at hge
  have hU1 := fun (wx : World) (A5 : Option Addr) (j c5 : Nat) (hj : j < (packB (packBits la lb)).length) (hb : Below w2.heap.size w2 wx) (r5 : Rd wx wx.heap.size 1 A5 j (bytesV ((packB (packBits la lb)).take j))) => by
    have := unpack_any A1 A5 N c1 j c5 wx.heap.size la ((packB (packBits la lb)).take j) wx hla.symm (by rw [List.length_take]; omega) (by omega) (by omega) (fun b hb => hlt b (List.mem_of_mem_take hb)) ((own_rd ho1 (hb2.trans (hb.mono hb2.size))).more (by have := hb2.size; have := hb.size; omega)) r5 (Nat.le_refl _)
    rw [unp_less hN1 hN8 hla hlb hga hgb hj] at this
    exact this
  have hU2 := fun (wx : World) (A5 : Option Addr) (c5 : Nat) (hb : Below w2.heap.size w2 wx) (r5 : Rd wx wx.heap.size 1 A5 ((packB (packBits la lb)).length + 1) (bytesV (packB (packBits la lb) ++ [0]))) => by
    have := unpack_any A1 A5 N c1 ((packB (packBits la lb)).length + 1) c5 wx.heap.size la (packB (packBits la lb) ++ [0]) wx hla.symm (by simp) (by omega) (by omega) (fun b hb => by rcases List.mem_append.1 hb with h | h; exact hlt b h; simp at h; omega) ((own_rd ho1 (hb2.trans (hb.mono hb2.size))).more (by have := hb2.size; have := hb.size; omega)) r5 (Nat.le_refl _)
    rw [unp_more hN1 hN8 hla hlb hga hgb] at this
    exact this
  have HU1 := Lib.hid hU1
  have HU2 := Lib.hid hU2
  have hL1 : 1 ≤ (packB (packBits la lb)).length := by omega
  have hL2 : (packB (packBits la lb)).length ≤ 27 := by omega
  clear hU1 hU2 hE hlt hlen hle hge HI1 HI2 HBl
  generalize packB (packBits la lb) = L at *
  clear hla hlb hga hgb
  have hL0 : ((L.length : Int) == 0) = false := by simp; intro h; rw [h] at hL1; simp at hL1
  go_wp2_with fail
  refine HP.out.mono ?_
  rintro e w3 ⟨A3, c3, rfl, ho3, hb3⟩
  go_wp2_with fail
  refine (packed_fact4 w3).mono ?_
  rintro e w4 ⟨rfl, hb4⟩
  have hb24 := hb3.trans (hb4.mono hb3.size)
  go_wp2_with fail
  have hj0 := Int.emod_nonneg cut (show (L.length : Int) ≠ 0 by omega)
  have hj1 := Int.emod_lt_of_pos cut (show (0 : Int) < L.length by omega)
  refine (below_any cut L.length w4 hcut (by omega) (by omega)).mono ?_
  rintro e w5 ⟨rfl, rfl⟩
  generalize cut % (L.length : Int) = J at hj0 hj1
  obtain ⟨j, rfl⟩ := Int.eq_ofNat_of_zero_le hj0
  have hjL : j < L.length := by omega
  have hLc : L.length ≤ c3 := by
    rcases ho3.2 with ⟨_, h⟩ | ⟨_, cap, _, h, _, _, h2, _⟩
    · omega
    · simp at h; omega
  have hr4 := own_rd ho3 hb4
  have hrj : Rd w4 w4.heap.size 1 A3 j (bytesV (L.take j)) := (Rd.take1 hr4 (by omega)).more hb4.size
  go_wp2_with fail
  refine (HU1.out w4 A3 j c3 hjL hb24 hrj).mono ?_
  rintro e w6 ⟨A6, c6, rfl, _, hb6⟩
  have hb26 := hb24.trans (hb6.mono hb24.size)
  have hb36 := hb4.trans (hb6.mono hb4.size)
  go_wp2_with fail
  refine (cloneBytes_any A3 L.length c3 w6.heap.size (bytesV L) w6 ((own_rd ho3 hb36).more hb36.size) (bytesV_one _) (Nat.le_refl _) (by omega)).mono ?_
  rintro e w7 ⟨A7, c7, rfl, ho7, hb7⟩
  have hb27 := hb26.trans (hb7.mono hb26.size)
  have hs67 := hb7.size
  clear hrj hr4
  go_wp2_with
    (at_builtin
     go_must (refine wpList_append_one _ rfl (.tmp 58) (.tmp 59) _ rfl w6.heap.size 5 i0 (.int .u8 0) 1 1 Try.underlying30 hi0 hz0 hz1 hz2 rfl (by decide) (.slice A7 L.length c7) L.length (bytesV L) rfl (ho7.alloc _) w7.heap.size 1 5 #[.int .u8 0] rfl (Bk.new _ _ _) rfl ?c1 (L.length + 1) rfl ?c2 ?c3 ?c4 ?_)
     case c1 => simp [Value.oneCell']
     case c2 => unfold maxLen; omega
     case c3 => omega
     case c4 => simp; omega
     intro g8 c8 w8 ho8 hg8 hat8)
  have hb68 : Below w6.heap.size w6 w8 := (hb7.alloc hs67 (.cells #[.int .u8 0] 5)).grown hg8 (by simp; omega) (fun q hq => (ho7.lt q hq).1)
  have hb28 := hb26.trans (hb68.mono hb26.size)
  refine (HU2.out w8 (some ⟨g8, 0, none⟩) c8 hb28 (by rw [bytesV_append]; exact Rd.of_own ho8)).mono ?_
  rintro e w9 ⟨A9, c9, rfl, _, hb9⟩
  have hfin := hbb2.trans ((hb28.trans (hb9.mono hb28.size)).mono hs2)
  go_wp2_with fail
  go_ret
  exact ⟨rfl, hfin⟩
end Go.Proofs.Ytlgcdcjfobfoiaa
