/-
  The contract of tourkeep4.Prefabs: drawn templates are valid. Conditions: numbers and valid kinds that can be read.
-/
import Derived.Test.YtnidcmhfbkdioaaPu
namespace Go.Proofs.Ytnidcmhfbkdioaa
open Go.RowKit
set_option maxRecDepth 100000

theorem T.info43 : (Try.prog.info? 43).map (fun i => (i.zero, i.size, i.bytes)) = some (some (.agg #[.slice none 0 0, .slice none 0 0]), 2, 48) := by kernel_rfl
/-- The templates drawn so far. -/
structure TsI (base : Nat) (w : World) (ks : List Kd) (OA : Option Addr) (i oc : Nat) (ts : List Pf) : Prop where
  own : w.ownsRow base 43 2 (.slice OA i oc) i (pfCs ts)
  len : i = ts.length
  ok : ∀ t ∈ ts, PfY w 0 t
  cn : ∀ t ∈ ts, t.cn ≤ 16
  dr : DrT (ks.map Kd.p) (ts.map Pf.p)
theorem TsI.y {base : Nat} {w : World} {ks : List Kd} {OA : Option Addr} {i oc : Nat} {ts : List Pf} (h : TsI base w ks OA i oc ts) : PfsY w 0 OA i oc ts :=
  ⟨RdY.of_own h.own, h.len, (own_cap2 h.own).1, (own_cap2 h.own).2, h.ok⟩

/-- The state of the loop. -/
def TsL (N : Nat) (W0 : World) (B s : Nat) (ks : List Kd) (ov iv : Value) (wr : World) : Prop := ∃ (i oc : Nat) (OA : Option Addr) (ts : List Pf), i ≤ N ∧ iv = .int .i64 i ∧ ov = .slice OA i oc ∧ Hid (TsI W0.heap.size wr ks OA i oc ts) ∧ Hid (StrSt wr B s) ∧ Hid (Fq [s] W0 wr)

set_option maxHeartbeats 8000000 in
theorem prefabs_any (xA : Option Addr) (xn xc B : Nat) (zs : List Int) {kn kc : Nat} {kA : Option Addr} {ks : List Kd} (w : World) (hr : Rd w B 1 xA xn (zs.map (Value.int .i64))) (hn : xn = zs.length) (hnc : xn ≤ xc) (hc : xc ≤ 9223372036854775807) (hz : ∀ z ∈ zs, (Lit.int .i64 z).wf = true) (hB : B ≤ w.heap.size) (hk : KsY w 0 kA kn kc ks) (hone : ∀ k ∈ ks, oneF k.nm k.fds = 0) (hkn : kn ≤ 16) :
    Calls Try.prog 23 #[.slice kA kn kc, .slice xA xn xc] w fun e w' => ∃ (TA : Option Addr) (m tc : Nat) (ts : List Pf), e = .returned (.slice TA m tc) ∧ Hid (TsI w.heap.size w' ks TA m tc ts ∧ 1 ≤ m ∧ m ≤ 4) ∧ Below w.heap.size w w' := by
  obtain ⟨W0, hW0⟩ : ∃ W0, W0 = w.alloc (.cells #[.slice xA xn xc] 189) := ⟨_, rfl⟩
  have hb0 : Below w.heap.size w W0 := by rw [hW0]; exact (Below.refl _ _).alloc (Nat.le_refl _) _
  have hst : StrSt W0 B w.heap.size := ⟨xA, xn, xc, zs, by rw [hW0]; exact Bk.new _ _ _, hn, hnc, hc, hr.below (hb0.mono hB), hz⟩
  obtain ⟨s, hs⟩ : ∃ s, s = w.heap.size := ⟨_, rfl⟩
  have hsz0 : W0.heap.size = s + 1 := by rw [hW0, hs]; simp
  rw [← hs] at hst
  have hBs : B ≤ s := by omega
  have HNX := Lib.hid next_any
  have HB0 := Lib.hid hb0
  have HST := Lib.hid hst
  have HS := Lib.hid hs
  have HK : Hid (KsY W0 0 kA kn kc ks) := Lib.hid (hk.keep (F := []) (Kx.of_below (B := 0) hb0) (by simp) (by simp))
  have HON := Lib.hid hone
  obtain ⟨i5, hi5, hz50, hz51, hz52⟩ := info_parts T.info43
  clear hr hn hnc hc hz hb0 hst hk hone
  go_enter Try.func23, Try.ntmps23
  go_wp2_with fail
  rw [← hW0, ← hs]
  clear hW0 hs
  (with_reducible refine (HNX.out s B 4 _ HST.out hBs (by omega) (by omega)).mono ?_)
  rintro e w1 ⟨v, rfl, hv0, hv1, hst1, hg1⟩
  obtain ⟨N, hN⟩ : ∃ N : Nat, 1 + v = N := ⟨(1 + v).toNat, by omega⟩
  have HQ1 : Hid (Fq [s] W0 w1) := Lib.hid ((Fq.refl (F := [s])).grown hg1 fun g hg => .inl (by injection hg with hg; simp [hg]))
  have HS1 := Lib.hid hst1
  have hN1 : 1 ≤ N := by omega
  have hN4 : N ≤ 4 := by omega
  have hwN : wrap64 (1 + v) = N := by rw [hN]; exact wrap_small (by omega) (by omega)
  have hwN2 : IntKind.i64.wrap (1 + v) = N := by rw [hN]; exact wrap_small2 (by omega) (by omega)
  have HNV := Lib.hid hN
  clear hst1 hg1 hN
  go_wp2_with fail
  go_loopw [6, 23] (fun ov iv wr => TsL N W0 B s ks ov iv wr) (fun _ iv _ => N - (intOf iv).toNat)
  case atStart => exact ⟨0, 0, none, [], Nat.zero_le _, rfl, rfl, Lib.hid ⟨World.ownsRow_nil _ _ _ _, rfl, (fun z hz => by cases hz), (fun z hz => by cases hz), DrT.nil⟩, HS1, HQ1⟩
  case round =>
    clear HS1 HQ1
    obtain ⟨i, oc, OA, ts, hi, rfl, rfl, HI, HSx, HQ⟩ := hrel
    obtain ⟨wo, rfl⟩ : ∃ x, x = wr := ⟨_, rfl⟩
    by_cases hlt : i < N
    · have hiz : (i : Int) < N := by omega
      have hkx := Kx.fq (B' := 0) HQ.out HST.out (Nat.zero_le _)
      have HKO := Lib.hid (HK.out.keep hkx (by decide) (by decide))
      have hsw : s < wo.heap.size := by have := HQ.out.size; omega
      obtain ⟨w2, hw2⟩ : ∃ w2, w2 = wo.alloc (.cells #[.slice none 0 0, .slice none 0 0] 43) := ⟨_, rfl⟩
      obtain ⟨hp, hhp⟩ : ∃ hp, hp = wo.heap.size := ⟨_, rfl⟩
      have hb2 : Below wo.heap.size wo w2 := by rw [hw2]; exact (Below.refl _ _).alloc (Nat.le_refl _) _
      have HBP : Hid (Bk w2 hp 43 #[.slice none 0 0, .slice none 0 0]) := Lib.hid (by rw [hw2, hhp]; exact Bk.new _ _ _)
      have HS2 : Hid (StrSt w2 B s) := Lib.hid (HSx.out.below hb2 (HSx.out.lo hBs))
      have HQ2 : Hid (Fq [s] wo w2) := Lib.hid (Fq.of_below hb2)
      have HK2 : Hid (KsY w2 0 kA kn kc ks) := Lib.hid (HKO.out.keep (F := []) (Kx.of_below (B := 0) hb2) (by simp) (by simp))
      have hhp2 : wo.heap.size ≤ hp := by omega
      have HW2 := Lib.hid (And.intro hw2 hhp)
      clear hkx hb2 hw2 hhp
      go_upto_region 6 with fail
      go_cut [8] from 26 to 26 (fun s8 wx => s8 = .pointer (some ⟨hp, 0, none⟩) ∧ wx = w2)
      case first =>
        go_wp2_with fail
        go_meet
        case rel => exact ⟨by rw [HW2.out.2], HW2.out.1.symm⟩
      case rest =>
        obtain ⟨rfl, rfl⟩ := hcut
        obtain ⟨w2, rfl⟩ : ∃ q, q = wc := ⟨_, rfl⟩
        go_step
        go_step
        refine pfComps_any HS2.out hBs hsw HK2.out HON.out hkn HQ2.out hhp2 HBP.out ?_
        intros
        rename_i CA q cc l w3 HC
        obtain ⟨hq16, hbp3, ⟨hown3, hql, hcm3, hvc3⟩, hst3, hq3, hkx3⟩ := HC.out
        have HT3 := Lib.hid (And.intro hown3 (And.intro hql (And.intro hcm3 hvc3)))
        have HBP3 := Lib.hid hbp3
        have HS3 := Lib.hid hst3
        have HQ3 := Lib.hid hq3
        clear hbp3 hown3 hql hcm3 hvc3 hst3 hq3 hkx3 HC HBP HS2
        first
          | (go_step; refine pfParts_any HSx.out HS3.out hBs hsw HKO.out HON.out HI.out.y (by omega) (fun t ht => HI.out.dr.comps t.p (List.mem_map_of_mem ht)) HQ3.out hhp2 HBP3.out ?_)
          | (go_step; go_step; refine pfParts_any HSx.out HS3.out hBs hsw HKO.out HON.out HI.out.y (by omega) (fun t ht => HI.out.dr.comps t.p (List.mem_map_of_mem ht)) HQ3.out hhp2 HBP3.out ?_)
          | (go_step; go_step; go_step; refine pfParts_any HSx.out HS3.out hBs hsw HKO.out HON.out HI.out.y (by omega) (fun t ht => HI.out.dr.comps t.p (List.mem_map_of_mem ht)) HQ3.out hhp2 HBP3.out ?_)
          | (go_step; go_step; go_step; go_step; refine pfParts_any HSx.out HS3.out hBs hsw HKO.out HON.out HI.out.y (by omega) (fun t ht => HI.out.dr.comps t.p (List.mem_map_of_mem ht)) HQ3.out hhp2 HBP3.out ?_)
          | (go_step; go_step; go_step; go_step; go_step; refine pfParts_any HSx.out HS3.out hBs hsw HKO.out HON.out HI.out.y (by omega) (fun t ht => HI.out.dr.comps t.p (List.mem_map_of_mem ht)) HQ3.out hhp2 HBP3.out ?_)
          | (go_step; go_step; go_step; go_step; go_step; go_step; refine pfParts_any HSx.out HS3.out hBs hsw HKO.out HON.out HI.out.y (by omega) (fun t ht => HI.out.dr.comps t.p (List.mem_map_of_mem ht)) HQ3.out hhp2 HBP3.out ?_)
          | (go_step; go_step; go_step; go_step; go_step; go_step; go_step; refine pfParts_any HSx.out HS3.out hBs hsw HKO.out HON.out HI.out.y (by omega) (fun t ht => HI.out.dr.comps t.p (List.mem_map_of_mem ht)) HQ3.out hhp2 HBP3.out ?_)
        intros
        rename_i PA m pc pts w4 HP
        obtain ⟨hm2, hbp4, hpi4, hst4, hq4, hkx4⟩ := HP.out
        have hkw : Kx 0 [189] wo w4 := Kx.fq (B' := 0) hq4 HSx.out (Nat.zero_le _)
        have HOW : Hid (w4.ownsRow W0.heap.size 43 2 (.slice OA i oc) i (pfCs ts)) := Lib.hid (hkw.own HI.out.own (by decide))
        have HTO : Hid (∀ t ∈ ts, PfY w4 0 t) := Lib.hid fun t ht => (HI.out.ok t ht).keep hkw (by decide) (by decide) (by decide) (by decide)
        have HCY : Hid (CsY w4 0 CA q cc l) := Lib.hid ⟨(RdY.of_own HT3.out.1).keep hkx4 (by decide), HT3.out.2.1, (own_cap2 HT3.out.1).1, (own_cap2 HT3.out.1).2, fun z hz => (HT3.out.2.2.1 z hz).keep hkx4 (by decide)⟩
        have HPT := Lib.hid hpi4
        have HS4 := Lib.hid hst4
        have HQ4 : Hid (Fq [s] W0 w4) := Lib.hid (HQ.out.trans hq4 (SubF.refl _ _))
        have HBP4 := Lib.hid hbp4
        have p0 : w4.cell? ⟨hp, 0, none⟩ = some (.slice CA q cc) := hbp4.cell 0
        have p1 : w4.cell? ⟨hp, 1, none⟩ = some (.slice PA m pc) := hbp4.cell 1
        have hw4s : W0.heap.size ≤ w4.heap.size := HQ4.out.size
        clear hbp4 hpi4 hst4 hq4 hkx4 hkw HP
        go_wp2_with
          (at_builtin
           go_must (refine wpList_append_one _ rfl (.tmp 130) (.tmp 132) _ rfl W0.heap.size 43 i5 (.agg #[.slice none 0 0, .slice none 0 0]) 2 48 Try.underlying32 hi5 hz50 hz51 hz52 rfl (by decide) (.slice OA i oc) i (pfCs ts) rfl (HOW.out.alloc _) w4.heap.size 1 43 #[.slice CA q cc, .slice PA m pc] rfl (Bk.new w4 _ _) rfl ?c1 (i + 1) rfl ?c2 ?c3 ?c4 ?_)
           case c1 => simp [Value.oneCell']
           case c2 => unfold maxLen; omega
           case c3 => omega
           case c4 => (simp; omega)
           intro g8 c8 w8 hown8 hg8 hat8)
        have hkx8 : Kx 0 [43] w4 w8 := ((Kx.refl (B := 0)).alloc _).grown (HOW.out.alloc _) hg8 (Nat.zero_le _) (by simp)
        have hkxB : Kx B [43] w4 w8 := ((Kx.refl (B := B)).alloc _).grown (HOW.out.alloc _) hg8 (by omega) (by simp)
        have hpcp := own_cap2 HPT.out.1
        have HIN : Hid (TsI W0.heap.size w8 ks (some ⟨g8, 0, none⟩) (i + 1) c8 (ts ++ [⟨CA, q, cc, l, PA, m, pc, pts⟩])) := Lib.hid (by
          refine ⟨?_, by rw [List.length_append, ← HI.out.len]; rfl, fun t ht => ?_, fun t ht => ?_, ?_⟩
          · rw [show pfCs (ts ++ [(⟨CA, q, cc, l, PA, m, pc, pts⟩ : Pf)]) = pfCs ts ++ (#[Value.slice CA q cc, .slice PA m pc] : Array Value).toList by simp [pfCs, Pf.cs]]
            exact hown8
          · rcases List.mem_append.1 ht with ht | ht
            · exact (HTO.out t ht).keep hkx8 (by decide) (by decide) (by decide) (by decide)
            · rw [List.mem_singleton.1 ht]
              exact ⟨HCY.out.keep hkx8 (by decide) (by decide), ⟨(RdY.of_own HPT.out.1).keep hkx8 (by decide), HPT.out.2.1, hpcp.1, hpcp.2, fun z hz => (HPT.out.2.2.1 z hz).keep hkx8 (by decide) (by decide)⟩⟩
          · rcases List.mem_append.1 ht with ht | ht
            · exact HI.out.cn t ht
            · rw [List.mem_singleton.1 ht]; show q ≤ 16; omega
          · rw [List.map_append]
            refine HI.out.dr.snoc HT3.out.2.2.2 (by show (pts.map Pt.p).length ≤ 2; rw [List.length_map, ← HPT.out.2.1]; exact hm2) fun p hp => ?_
            obtain ⟨x, hx, rfl⟩ := List.mem_map.1 (show p ∈ pts.map Pt.p from hp)
            obtain ⟨k, u, h1, h2, h3⟩ := HPT.out.2.2.2 x hx
            exact ⟨k, u.p, h1, by rw [List.getElem?_map, h2]; rfl, h3⟩)
        have HSN : Hid (StrSt w8 B s) := Lib.hid (HS4.out.kx hkxB (Nat.le_refl _) (HS4.out.lo hBs) (by decide))
        have HQN : Hid (Fq [s] W0 w8) := Lib.hid ((HQ4.out.alloc _).grown hg8 (fun g hg => .inr (HOW.out.lt g hg).1))
        clear hkx8 hkxB hown8 hg8 hat8 hpcp
        go_wp2_with fail
        go_roundw
        case rel => first | exact ⟨i + 1, c8, some ⟨g8, 0, none⟩, ts ++ [⟨CA, q, cc, l, PA, m, pc, pts⟩], by omega, by go_num, rfl, HIN, HSN, HQN⟩ | ((repeat apply Exists.intro); (refine And.intro ?_ ?_); (focus (repeat' first | exact rfl | apply And.intro)); exact ⟨i + 1, c8, some ⟨g8, 0, none⟩, ts ++ [⟨CA, q, cc, l, PA, m, pc, pts⟩], by omega, by go_num, rfl, HIN, HSN, HQN⟩)
        case measure => simp [intOf]; omega
    · obtain rfl : i = N := by omega
      have HE : Hid (TsI w.heap.size wo ks OA i oc ts ∧ 1 ≤ i ∧ i ≤ 4) := Lib.hid ⟨⟨own_monoP HI.out.own (by have := HS.out; omega), HI.out.len, HI.out.ok, HI.out.cn, HI.out.dr⟩, hN1, hN4⟩
      have HBE : Hid (Below w.heap.size w wo) := Lib.hid (HB0.out.trans (Fq.below HQ.out (fun k hk => by rw [List.mem_singleton.1 hk]; have := HS.out; omega) (by have := HS.out; omega)))
      go_wp2_with fail
      go_ret
      exact ⟨OA, i, oc, ts, rfl, HE, HBE.out⟩
end Go.Proofs.Ytnidcmhfbkdioaa
