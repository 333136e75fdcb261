/-
  The contract of prefab.build. Conditions: templates that can be read, whose parts are earlier ones.
-/
import Derived.Test.YtnidcmhfbkdioaaPl
namespace Go.Proofs.Ytnidcmhfbkdioaa
open Go.RowKit
set_option maxRecDepth 100000

/-- Templates whose components have kinds of the game and whose parts are earlier templates. -/
structure TplOk (ks : List Kd) (ts : List Pf) : Prop where
  cs : ∀ (n : Nat) (t : Pf), ts[n]? = some t → t.cn ≤ 1000 ∧ ∀ cm ∈ t.cms, (∃ k : Nat, cm.k = k ∧ k < ks.length) ∧ cm.n ≤ 1048576
  ps : ∀ (n : Nat) (t : Pf), ts[n]? = some t → ∀ x ∈ t.pts, ∃ k : Nat, x.of_ = k ∧ k < n

theorem bld_first {w : World} {base : Nat} {ks : List Kd} {g oc n : Nat} {OA : Option Addr} {l1 : List Cm} (hg : Bk w g 40 #[.slice none 0 0, .slice OA n oc]) (hb : base ≤ g) (ho : w.ownsRow base 166 2 (.slice OA n oc) n (cmCs l1)) (hl : n = l1.length) (hok : ∀ z ∈ l1, CmY w 0 z) (hkk : ∀ cm ∈ l1, (∃ k : Nat, cm.k = k ∧ k < ks.length) ∧ cm.n ≤ 1048576) :
    BuI w base ks (some ⟨g, 0, none⟩) 1 1 [⟨none, 0, 0, [], OA, n, oc, l1⟩] := by
  have hcp := own_cap2 ho
  refine ⟨⟨rfl, .inr ⟨g, 1, #[.slice none 0 0, .slice OA n oc], rfl, hb, hg, Nat.le_refl _, by unfold maxLen; omega, rfl, rfl⟩⟩, rfl, ⟨fun x hx => ?_, fun i j x y hij hx hy => ?_⟩, fun x hx cm hcm => ?_⟩
  · rw [List.mem_singleton.1 hx]
    refine ⟨⟨rfl, fun h => absurd h (Nat.lt_irrefl 0)⟩, rfl, Nat.le_refl _, Nat.zero_le _, ⟨RdY.of_own ho, hl, hcp.1, hcp.2, hok⟩, fun hn => ?_⟩
    rcases ho.2 with ⟨hv, h0⟩ | ⟨g', cap, cur, hv, hb', hh, _⟩
    · have hn : 0 < n := hn
      injection hv with _ h1
      omega
    · injection hv with h1
      exact ⟨g', 0, _, h1, hb', hh⟩
  · have h1 := (List.getElem?_eq_some_iff.1 hx).1
    have h2 := (List.getElem?_eq_some_iff.1 hy).1
    simp at h1 h2
    omega
  · rw [List.mem_singleton.1 hx] at hcm
    exact hkk cm hcm

set_option maxHeartbeats 4000000 in
theorem build_any {w0 : World} {B kn kc tn tc : Nat} {kA TA : Option Addr} {ks : List Kd} {ts : List Pf} (hk : KsOk w0 B kA kn kc ks) (ht : PfsOk w0 B TA tn tc ts) (htp : TplOk ks ts) :
    ∀ (d : Nat), d ≤ 900 → ∀ (nn : Nat), nn < d → nn < tn → ∀ (w : World) (oA : Option Addr) (on oc : Nat) (ovs : List Ov), Below B w0 w → OvsOk w B oA on oc ovs →
    Calls Try.prog 100 #[.slice kA kn kc, .slice TA tn tc, .int .i64 nn, .slice oA on oc] w (BldP w ks (buildF (ks.map Kd.p) (ts.map Pf.p) d nn (ovs.map Ov.p))) := by
  intro d
  induction d with
  | zero => intro _ nn h; omega
  | succ d ih =>
    intro hd nn hnd hnt w oA on oc ovs hb ho
    obtain ⟨t, hn⟩ : ∃ t, ts[nn]? = some t := ⟨_, List.getElem?_eq_getElem (by have := ht.len; omega)⟩
    have htw := ht.below hb
    have hkw := hk.below hb
    have hcs := htp.cs nn t hn
    have hrec : Hid (∀ (wz : World) (x : Pt), x ∈ t.pts → Below w.heap.size w wz → Calls Try.prog 100 #[.slice kA kn kc, .slice TA tn tc, .int .i64 x.of_, .slice x.oA x.on x.oc] wz (BldP wz ks (buildF (ks.map Kd.p) (ts.map Pf.p) d x.of_ (x.ovs.map Ov.p)))) := Lib.hid fun wz x hx hbz => by
      obtain ⟨k, e, hkn⟩ := htp.ps nn t hn x hx
      rw [e]
      have h1 := hb.trans (hbz.mono htw.lo)
      exact ih (by omega) k (by omega) (by omega) wz x.oA x.on x.oc x.ovs h1 (((ht.ok t (List.mem_of_getElem? hn)).ts.ok x hx).ov.below h1)
    obtain ⟨R, hR⟩ : ∃ R, R = buildF (ks.map Kd.p) (ts.map Pf.p) (d + 1) nn (ovs.map Ov.p) := ⟨_, rfl⟩
    rw [← hR]
    have hon := ho.len
    have hpt : (ts.map Pf.p)[((nn : Nat) : Int).toNat]? = some (Pf.p t) := by rw [List.getElem?_map, Int.toNat_natCast, hn]; rfl
    unfold buildF at hR
    rw [List.length_map, ← hon, hpt] at hR
    have HR := Lib.hid hR
    have HTW := Lib.hid htw
    have HKW := Lib.hid hkw
    have HCS := Lib.hid hcs.2
    have HN := Lib.hid hn
    have HO := Lib.hid ho
    have hcn := hcs.1
    have hcap := ho.cap
    have hcap2 := ho.cap2
    clear ih hn htw hkw hcs hR hpt ho hk ht htp hb hon
    go_enter Try.func100, Try.ntmps100
    by_cases h40 : on ≤ 40
    · have h40z : ¬ ((40 : Int) < on) := by omega
      have hne : ¬ (40 < on) := by omega
      obtain ⟨w1, hw1⟩ : ∃ w1, w1 = w.alloc (.cells #[.slice none 0 0, .slice none 0 0] 40) := ⟨_, rfl⟩
      have HB1 : Hid (Below w.heap.size w w1) := Lib.hid (by rw [hw1]; exact (Below.refl _ _).alloc (Nat.le_refl _) _)
      have HO1 : Hid (Bk w1 w.heap.size 40 #[.slice none 0 0, .slice none 0 0]) := Lib.hid (by rw [hw1]; exact Bk.new _ _ _)
      go_upto_region 3 with fail
      go_cut [10] from 26 to 26 (fun s10 wx => s10 = .pointer (some ⟨w.heap.size, 0, none⟩) ∧ Hid (Below w.heap.size w wx ∧ Bk wx w.heap.size 40 #[.slice none 0 0, .slice none 0 0]))
      case first =>
        go_wp2_with fail
        go_meet
        case rel => exact ⟨rfl, Lib.hid ⟨(Below.refl _ _).alloc (Nat.le_refl _) _, Bk.new _ _ _⟩⟩
      case rest =>
        obtain ⟨rfl, HD⟩ := hcut
        obtain ⟨w1, rfl⟩ : ∃ q, q = wc := ⟨_, rfl⟩
        go_step
        go_step
        refine bdComps_any HTW.out HN.out HD.out.1 (Nat.le_refl _) (Lib.hid HD.out.2) hcn (Lib.hid fun cm h => (HCS.out cm h).2) ?_
        intros
        rename_i wy HC
        obtain ⟨w2, rfl⟩ : ∃ q, q = wy := ⟨_, rfl⟩
        obtain ⟨hb2, OA, oc2, l1, hbk, hown, hp, hpl, hok⟩ := HC.out
        have d0 : w2.cell? ⟨w.heap.size, 0, none⟩ = some (.slice none 0 0) := hbk.cell 0
        have d1 : w2.cell? ⟨w.heap.size, 1, none⟩ = some (.slice OA t.cn oc2) := hbk.cell 1
        have HC2 := Lib.hid (And.intro hown (And.intro hp (And.intro hpl hok)))
        have HB2 := Lib.hid hb2
        clear hbk hown hp hpl hok hb2 HC
        go_upto_region 9 with fail
        go_cut [13] from 49 to 50 (fun s13 wx => s13 = .slice (some ⟨w2.heap.size, 0, none⟩) 1 1 ∧ Hid (Below w.heap.size w wx ∧ BuI wx w.heap.size ks (some ⟨w2.heap.size, 0, none⟩) 1 1 [⟨none, 0, 0, [], OA, t.cn, oc2, l1⟩]))
        case first =>
          go_wp2_with fail
          go_meet
          case rel =>
            refine ⟨rfl, Lib.hid ⟨HB2.out.alloc HB2.out.size _, ?_⟩⟩
            have hk9 : Kx 0 [] w2 (w2.alloc (.cells #[.slice none 0 0, .slice OA t.cn oc2] 40)) := (Kx.refl (B := 0)).alloc _
            refine bld_first (Bk.new _ _ _) HB2.out.size (HC2.out.1.alloc _) ?_ (fun z hz => (HC2.out.2.2.2 z hz).keep hk9 (by simp)) (fun cm hcm => ?_)
            · have h := congrArg List.length HC2.out.2.2.1
              rw [List.length_map, List.length_map] at h
              rw [h]; exact (HTW.out.ok t (List.mem_of_getElem? HN.out)).cs.len
            · obtain ⟨j, hj, e⟩ := List.getElem_of_mem hcm
              have h1 := congrArg (fun q => q[j]?) HC2.out.2.1
              have h2 := congrArg (fun q => q[j]?) HC2.out.2.2.1
              simp only [List.getElem?_map, List.getElem?_eq_getElem hj, e, Option.map_some] at h1 h2
              cases h3 : t.cms[j]? with
              | none => rw [h3] at h1; simp at h1
              | some c0 =>
                rw [h3] at h1 h2
                have h4 := HCS.out c0 (List.mem_of_getElem? h3)
                have e1 : cm.k = c0.k := by injection h1 with h1; exact congrArg Prod.fst h1
                have e2 : cm.n = c0.n := by injection h2
                rw [e1, e2]; exact h4
        case rest =>
          obtain ⟨rfl, HD⟩ := hcut
          obtain ⟨w3, rfl⟩ : ∃ q, q = wc := ⟨_, rfl⟩
          have HI3 := Lib.hid HD.out.2
          have hp0 : (List.map Bt.p [(⟨none, 0, 0, [], OA, t.cn, oc2, l1⟩ : Bt)]) = [([], (Pf.p t).1)] := by
            show [(([] : List Int), l1.map Cm.p)] = _; rw [HC2.out.2.1]; rfl
          obtain ⟨Z, hZ⟩ : ∃ Z, Z = partsF (buildF (ks.map Kd.p) (ts.map Pf.p) d) 0 (t.pts.map Pt.p) [([], (Pf.p t).1)] := ⟨_, rfl⟩
          have HZ := Lib.hid hZ
          have HRZ : Hid (R = if Z.1 ≠ 0 then (Z.1, []) else oversF (ks.map Kd.p) (ovs.map Ov.p) Z.2) := Lib.hid (by
            rw [HR.out, if_neg hne]; show (match partsF (buildF (ks.map Kd.p) (ts.map Pf.p) d) 0 (Pf.p t).2 [([], (Pf.p t).1)] with | (e, out) => _) = _
            rw [show (Pf.p t).2 = t.pts.map Pt.p from rfl, ← hZ])
          have HP0 := Lib.hid hp0
          clear hZ hp0 d0 d1
          go_step
          go_step
          refine bdParts_any HTW.out HN.out HD.out.1 HI3 (by decide) hrec (by omega) ?_ ?_
          · rw [HP0.out, ← HZ.out]
            intros
            rename_i e9 wz HP
            have hp1 := HP.out.2.2
            have hR1 : R.1 = e9 := by rw [HRZ.out, if_pos HP.out.2.1]; exact hp1
            have he0 : e9 ≠ 0 := by rw [← hp1]; exact HP.out.2.1
            have HP1 := Lib.hid (And.intro HP.out.1 (And.intro hR1 he0))
            clear hp1 hR1 he0 HP
            go_wp2_with fail
            go_ret2
            exact ⟨HP1.out.1, .inl ⟨by rw [HP1.out.2.1]; exact HP1.out.2.2, by rw [HP1.out.2.1]; rfl⟩⟩
          · rw [HP0.out, ← HZ.out]
            intros
            rename_i A' m' c' wz HP
            obtain ⟨w4, rfl⟩ : ∃ q, q = wz := ⟨_, rfl⟩
            obtain ⟨hb4, hz4, hm4, l4, hi4, hp4⟩ := HP.out
            have HI4 := Lib.hid hi4
            have hRo : R = oversF (ks.map Kd.p) (ovs.map Ov.p) (l4.map Bt.p) := by rw [HRZ.out, if_neg (by rw [hz4]; simp), hp4]
            have HRO := Lib.hid hRo
            have HB4 := Lib.hid hb4
            clear hb4 hz4 hi4 hp4 HP hRo
            go_step
            go_step
            refine bdOvers_any HKW.out HO.out HB4.out HI4 ?_ ?_
            · rw [← HRO.out]
              intros
              rename_i wz HP
              go_wp2_with fail
              go_ret2
              exact ⟨HP.out.1, .inl ⟨HP.out.2, rfl⟩⟩
            · rw [← HRO.out]
              intros
              rename_i wz HP
              go_wp2_with fail
              go_ret2
              obtain ⟨h1, h2, l', h3, h4⟩ := HP.out
              exact ⟨h1, .inr ⟨h2, A', m', c', l', rfl, Lib.hid ⟨h3, h4⟩⟩⟩
    · have h40z : (40 : Int) < on := by omega
      have hne : 40 < on := by omega
      have HRZ : Hid (R.1 = 2) := Lib.hid (by rw [HR.out, if_pos hne])
      go_wp2_with fail
      go_ret2
      exact ⟨Below.refl _ _, .inl ⟨by rw [HRZ.out]; decide, by rw [HRZ.out]; rfl⟩⟩
end Go.Proofs.Ytnidcmhfbkdioaa
