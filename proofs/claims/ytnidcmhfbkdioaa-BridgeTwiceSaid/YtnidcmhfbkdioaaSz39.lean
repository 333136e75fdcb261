/-
  The contract of bridge.Scene. Conditions: what is read can be read; contacts that memory holds; values that are not great.
-/
import Derived.Test.YtnidcmhfbkdioaaSz38
import Derived.Test.YtnidcmhfbkdioaaSz13
namespace Go.Proofs.Ytnidcmhfbkdioaa
open Go.RowKit
set_option maxRecDepth 100000
theorem results_ctt {fn : Func} {p q r : Tmp} {ty : TypeId} (h : fn.results = #[.cell p ty, .tmp q, .tmp r]) (tmps : Array Value) (P : Program) (w : World) :
    (results fn tmps).run P w =
      ((asAddr (tmps.getD p undef)).run P w).andThen fun a w₁ => ((loadVar ty a).run P w₁).andThen fun v w₂ => .ok (.tuple #[v, tmps.getD q undef, tmps.getD r undef]) w₂ := by
  simp only [results, h]
  simp [Sem.run_bind, Result.andThen]
/-- What a scene reads as. -/
structure ScR (w : World) (base : Nat) (A : Option Addr) (n c : Nat) (kA : Option Addr) (kn kc : Nat) (E : Option Addr) (ec : Nat) (q : List (Bo × (Int × Int))) (D : List Ct) : Prop where
  bm : ∃ l, BmI w base A n c l ∧ l.map Bm.b = q.map Prod.fst
  en : w.ownsRow base 128 2 (.slice E n ec) n (enCs (q.map Prod.snd))
  len : n = q.length
  ct : w.ownsRow base 131 10 (.slice kA kn kc) kn (ctCs D)
def ScP (w : World) (cv mv gx gy st : Int) (q : List (Bo × (Int × Int))) (D : List Ct) (e : Ending) (w' : World) : Prop :=
  Below w.heap.size w w' ∧
  ((cv ≠ 0 ∧ e = .returned (.tuple #[.agg #[.slice none 0 0, .slice none 0 0, .slice none 0 0, .int .i64 0, .int .i64 0, .int .i64 0], .slice none 0 0, .int .i64 cv])) ∨
   (cv = 0 ∧ mv ≠ 0 ∧ e = .returned (.tuple #[.agg #[.slice none 0 0, .slice none 0 0, .slice none 0 0, .int .i64 0, .int .i64 0, .int .i64 0], .slice none 0 0, .int .i64 mv])) ∨
   (cv = 0 ∧ mv = 0 ∧ 64 < q.length ∧ e = .returned (.tuple #[.agg #[.slice none 0 0, .slice none 0 0, .slice none 0 0, .int .i64 0, .int .i64 0, .int .i64 0], .slice none 0 0, .int .i64 2])) ∨
   (cv = 0 ∧ mv = 0 ∧ q.length ≤ 64 ∧ ∃ A n c kA kn kc E ec, e = .returned (.tuple #[.agg #[.slice A n c, .slice none 0 0, .slice kA kn kc, .int .i64 gx, .int .i64 gy, .int .i64 st], .slice E n ec, .int .i64 0]) ∧ ScR w' w.heap.size A n c kA kn kc E ec q D))
theorem bodiesF_take {m0 m1 m2 : Int} {l : List It} {k : Nat} {it : It} (h : l[k]? = some it) : bodiesF m0 m1 m2 (l.take (k + 1)) = bodiesF m0 m1 m2 (l.take k) ++ ((bodyF m0 m1 m2 it.cms).map fun b => (b, (it.e, it.g))).toList := by
  unfold bodiesF
  rw [List.take_add_one, h, List.filterMap_append]
  cases hb : bodyF m0 m1 m2 it.cms <;> simp [hb]
theorem bodiesF_more {m0 m1 m2 : Int} {l : List It} (k : Nat) : (bodiesF m0 m1 m2 (l.take k)).length ≤ (bodiesF m0 m1 m2 l).length := by
  unfold bodiesF
  exact ((List.take_sublist k l).filterMap _).length_le
def ctsF (f : Int → Option Int) (l : List Ct) : List Ct := l.flatMap (ctF1 f)
theorem ctsF_take {f : Int → Option Int} {l : List Ct} {k : Nat} {c : Ct} (h : l[k]? = some c) : ctsF f (l.take (k + 1)) = ctsF f (l.take k) ++ ctF1 f c := by
  unfold ctsF
  rw [List.take_add_one, h, List.flatMap_append]
  simp
set_option maxHeartbeats 16000000 in
theorem scene_any {w : World} {B cn cc : Nat} {cA : Option Addr} {cl : List Ct} {x : Wd} {gx gy st m0 m1 m2 cv mv : Int} (h : WdOk w B x) (hrd : Rd w B 10 cA cn (ctCs cl)) (hcl : cn = cl.length) (hcap : cn ≤ cc) (hcap2 : cc ≤ 9223372036854775807) (hcn : cn * 80 ≤ 140737488355328)
    (hwf : ∀ c ∈ cl, (Lit.int .i64 c.a).wf = true ∧ (Lit.int .i64 c.b).wf = true) (hcv : cv = wcheckF x.p) (hmv : mapF (x.ks.map Kd.p) = ((m0, m1, m2), mv))
    (hva : cv = 0 → mv = 0 → ∀ it ∈ x.its, VaOk it.cms m0 3 ∧ VaOk it.cms m1 4 ∧ VaOk it.cms m2 5) :
    Calls Try.prog 56 #[x.v, .slice cA cn cc, .agg #[.int .i64 gx, .int .i64 gy], .int .i64 st] w (ScP w cv mv gx gy st (bodiesF m0 m1 m2 x.its) (ctsF (slotM ((bodiesF m0 m1 m2 x.its).map Prod.snd) 0 fun _ => none) cl)) := by
  have hck0 := fun (w1 : World) (hb : Below w.heap.size w w1) => wcheck_any (h.below (hb.mono h.ks.lo))
  rw [← hcv] at hck0
  have hof0 := fun (w1 : World) (hb : Below w.heap.size w w1) => of_says (h.ks.below (hb.mono h.ks.lo))
  rw [hmv] at hof0
  obtain ⟨kA, kn, kc, ks, gA, gn, gc, gens, iA, im, ic, its⟩ := x
  obtain ⟨hk, hg, hi⟩ := h
  dsimp only at hk hg hi hck0 hof0 hva
  dsimp only [Wd.v] at hck0 ⊢
  clear hcv hmv
  obtain ⟨Q, hQ⟩ : ∃ Q, Q = bodiesF m0 m1 m2 its := ⟨_, rfl⟩
  rw [← hQ]
  obtain ⟨base, hbase⟩ : ∃ z, z = w.heap.size := ⟨_, rfl⟩
  obtain ⟨W0, hW0⟩ : ∃ z, z = ((w.alloc (.cells #[.slice kA kn kc, .slice gA gn gc, .slice iA im ic] 52)).alloc (.cells #[.int .i64 gx, .int .i64 gy] 105)).alloc (.cells #[.slice none 0 0, .slice none 0 0, .slice none 0 0, .int .i64 0, .int .i64 0, .int .i64 0] 115) := ⟨_, rfl⟩
  have hb0 : Below w.heap.size w W0 := by rw [hW0]; exact (((Below.refl _ _).alloc (Nat.le_refl _) _).alloc (by simp) _).alloc (by simp; omega) _
  have HWA : Hid (Bk W0 base 52 #[.slice kA kn kc, .slice gA gn gc, .slice iA im ic]) := Lib.hid (by rw [hW0, hbase]; exact ((Bk.new _ _ _).alloc _).alloc _)
  have HGA : Hid (Bk W0 (base + 1) 105 #[.int .i64 gx, .int .i64 gy]) := Lib.hid (by rw [hW0, hbase]; exact (Bk.twoB _ _ _ _).alloc _)
  have HRA : Hid (Bk W0 (base + 2) 115 #[.slice none 0 0, .slice none 0 0, .slice none 0 0, .int .i64 0, .int .i64 0, .int .i64 0]) := Lib.hid (by
    rw [hW0, hbase]
    simpa using Bk.new ((w.alloc (.cells #[.slice kA kn kc, .slice gA gn gc, .slice iA im ic] 52)).alloc (.cells #[.int .i64 gx, .int .i64 gy] 105)) 115 #[.slice none 0 0, .slice none 0 0, .slice none 0 0, .int .i64 0, .int .i64 0, .int .i64 0])
  have HCK := Lib.hid hck0
  have HOF := Lib.hid hof0
  have HI := Lib.hid hi
  have HVA := Lib.hid hva
  have HRD : Hid (Rd w B 10 cA cn (ctCs cl) ∧ cn = cl.length ∧ cn ≤ cc ∧ cc ≤ 9223372036854775807 ∧ cn * 80 ≤ 140737488355328 ∧ ∀ c ∈ cl, (Lit.int .i64 c.a).wf = true ∧ (Lit.int .i64 c.b).wf = true) := Lib.hid ⟨hrd, hcl, hcap, hcap2, hcn, hwf⟩
  have HB0 := Lib.hid hb0
  have HQ := Lib.hid hQ
  have HBS : Hid (base = w.heap.size) := Lib.hid hbase
  have HLO : Hid (B ≤ w.heap.size) := Lib.hid hi.lo
  have hicap := hi.cap
  have hicap2 := hi.cap2
  clear hk hg hi hck0 hof0 hva hrd hcl hwf hb0 hQ hcn
  go_enter Try.func56, Try.ntmps56
  go_upto_region 1 with fail
  rw [← hW0, ← hbase]
  clear hW0 hbase
  have a0 : W0.cell? ⟨base, 0, none⟩ = some (.slice kA kn kc) := HWA.out.cell 0
  have a1 : W0.cell? ⟨base, 1, none⟩ = some (.slice gA gn gc) := HWA.out.cell 1
  have a2 : W0.cell? ⟨base, 2, none⟩ = some (.slice iA im ic) := HWA.out.cell 2
  go_wp2_with fail
  (with_reducible refine (HCK.out W0 HB0.out).mono ?_)
  rintro e w2 ⟨rfl, hb2⟩
  have HWA2 := Lib.hid (HWA.out.below hb2 HWA.out.lt)
  have HGA2 := Lib.hid (HGA.out.below hb2 HGA.out.lt)
  have HRA2 : Hid (Bk w2 (base + 2) 115 #[.slice none 0 0, .slice none 0 0, .slice none 0 0, .int .i64 0, .int .i64 0, .int .i64 0]) := Lib.hid (HRA.out.below hb2 HRA.out.lt)
  have HB2 : Hid (Below w.heap.size w w2) := Lib.hid (HB0.out.trans (hb2.mono HB0.out.size))
  clear a0 a1 a2 hb2 HWA HGA HRA HCK
  by_cases hc : cv = 0
  · have HCV := Lib.hid hc
    have t0 : (cv != 0) = false := by simpa using hc
    clear hc
    have b0 : w2.cell? ⟨base, 0, none⟩ = some (.slice kA kn kc) := HWA2.out.cell 0
    have b1 : w2.cell? ⟨base, 1, none⟩ = some (.slice gA gn gc) := HWA2.out.cell 1
    have b2 : w2.cell? ⟨base, 2, none⟩ = some (.slice iA im ic) := HWA2.out.cell 2
    go_wp2_with fail
    (with_reducible refine (HOF.out w2 HB2.out).mono ?_)
    rintro e w3 ⟨rfl, hb3⟩
    obtain ⟨mA, hmA⟩ : ∃ z, z = w3.heap.size := ⟨_, rfl⟩
    obtain ⟨W4, hW4⟩ : ∃ z, z = w3.alloc (.cells #[.int .i64 m0, .int .i64 m1, .int .i64 m2] 24) := ⟨_, rfl⟩
    have hb4 : Below w2.heap.size w2 W4 := by rw [hW4]; exact hb3.alloc hb3.size _
    have HMA : Hid (Bk W4 mA 24 #[.int .i64 m0, .int .i64 m1, .int .i64 m2]) := Lib.hid (by rw [hW4, hmA]; exact Bk.new _ _ _)
    have HWA4 := Lib.hid (HWA2.out.below hb4 HWA2.out.lt)
    have HGA4 := Lib.hid (HGA2.out.below hb4 HGA2.out.lt)
    have HRA4 : Hid (Bk W4 (base + 2) 115 #[.slice none 0 0, .slice none 0 0, .slice none 0 0, .int .i64 0, .int .i64 0, .int .i64 0]) := Lib.hid (HRA2.out.below hb4 HRA2.out.lt)
    have HB4 : Hid (Below w.heap.size w W4) := Lib.hid (HB2.out.trans (hb4.mono HB2.out.size))
    have HM0 : Hid (w.heap.size ≤ mA) := Lib.hid (by rw [hmA]; have h1 := HB2.out.size; have h2 := hb3.size; omega)
    clear b0 b1 b2 HWA2 HGA2 HRA2 hb4 HOF
    go_upto_region 5 with fail
    rw [← hW4, ← hmA]
    clear hW4 hmA hb3 HB2
    by_cases hm : mv = 0
    · have HMV := Lib.hid hm
      have t1 : (mv != 0) = false := by simpa using hm
      clear hm
      have b0 : W4.cell? ⟨base, 0, none⟩ = some (.slice kA kn kc) := HWA4.out.cell 0
      have b1 : W4.cell? ⟨base, 1, none⟩ = some (.slice gA gn gc) := HWA4.out.cell 1
      have b2 : W4.cell? ⟨base, 2, none⟩ = some (.slice iA im ic) := HWA4.out.cell 2
      have g0 : W4.cell? ⟨base + 1, 0, none⟩ = some (.int .i64 gx) := HGA4.out.cell 0
      have g1 : W4.cell? ⟨base + 1, 1, none⟩ = some (.int .i64 gy) := HGA4.out.cell 1
      obtain ⟨sA, hsA⟩ : ∃ z, z = W4.heap.size := ⟨_, rfl⟩
      obtain ⟨W5, hW5⟩ : ∃ z, z = W4.alloc (.cells #[.slice none 0 0, .slice none 0 0, .slice none 0 0, .int .i64 gx, .int .i64 gy, .int .i64 st] 115) := ⟨_, rfl⟩
      obtain ⟨mp, hmp⟩ : ∃ z, z = W5.heap.size := ⟨_, rfl⟩
      obtain ⟨W6, hW6⟩ : ∃ z, z = W5.alloc (.map #[] 0) := ⟨_, rfl⟩
      go_upto_region 8 with fail
      rw [← hW5, ← hsA]
      have hb5 : Below W4.heap.size W4 W5 := by rw [hW5]; exact (Below.refl _ _).alloc (Nat.le_refl _) _
      have HSA5 : Hid (Bk W5 sA 115 #[.slice none 0 0, .slice none 0 0, .slice none 0 0, .int .i64 gx, .int .i64 gy, .int .i64 st]) := Lib.hid (by rw [hW5, hsA]; exact Bk.new _ _ _)
      clear g0 g1 b0 b1 b2 hW5
      have hmm := @run_makeMap Try.prog
      go_upto_region 10 with fail
      clear hmm
      rw [← hW6, ← hmp]
      have hb6 : Below W4.heap.size W4 W6 := by rw [hW6]; exact hb5.alloc hb5.size _
      have HM6 : Hid (ScM W6 base mp 0 fun _ => none) := Lib.hid ⟨by rw [hW6, hmp]; exact MpI.made W5, by have h1 := HBS.out; have h2 := HB4.out.size; have h3 := hb5.size; rw [hmp]; omega⟩
      have HS6 : Hid (ScI W6 base sA none 0 0 none 0 gx gy st []) := Lib.hid ⟨by rw [hW6]; exact HSA5.out.alloc _, ⟨[], ⟨World.ownsRow_nil _ _ _ _, rfl, by simp⟩, rfl⟩, World.ownsRow_nil _ _ _ _, rfl, by have h1 := HBS.out; have h2 := HB4.out.size; rw [hsA]; omega⟩
      have HWA6 := Lib.hid (HWA4.out.below hb6 HWA4.out.lt)
      have HRA6 : Hid (Bk W6 (base + 2) 115 #[.slice none 0 0, .slice none 0 0, .slice none 0 0, .int .i64 0, .int .i64 0, .int .i64 0]) := Lib.hid (HRA4.out.below hb6 HRA4.out.lt)
      have HMA6 := Lib.hid (HMA.out.below hb6 HMA.out.lt)
      have HB6 : Hid (Below w.heap.size w W6) := Lib.hid (HB4.out.trans (hb6.mono HB4.out.size))
      have HNS : Hid (base + 2 ≠ sA) := Lib.hid (by rw [hsA]; have := HRA4.out.lt; omega)
      clear hW6 hmp hsA hb5 hb6 HSA5 HWA4 HGA4 HRA4 HMA HB4
      have b2 : W6.cell? ⟨base, 2, none⟩ = some (.slice iA im ic) := HWA6.out.cell 2
      go_wp2_with fail
      clear b2
      go_loopw [15, 50] (fun ev kv wx => ∃ (k n c ec : Nat) (A E : Option Addr), k ≤ im ∧ kv = .int .i64 k ∧ ev = .slice E n ec ∧ Hid (n ≤ 64 ∧ ScI wx base sA A n c E ec gx gy st (bodiesF m0 m1 m2 (its.take k)) ∧ ScM wx base mp n (slotM ((bodiesF m0 m1 m2 (its.take k)).map Prod.snd) 0 fun _ => none)) ∧ Hid (Below w.heap.size w wx ∧ Bk wx (base + 2) 115 #[.slice none 0 0, .slice none 0 0, .slice none 0 0, .int .i64 0, .int .i64 0, .int .i64 0] ∧ Bk wx mA 24 #[.int .i64 m0, .int .i64 m1, .int .i64 m2])) (fun _ kv _ => im - (intOf kv).toNat)
      case atStart => exact ⟨0, 0, 0, 0, none, none, by omega, rfl, rfl, Lib.hid ⟨by omega, by simpa [bodiesF] using HS6.out, by simpa [bodiesF, slotM] using HM6.out⟩, Lib.hid ⟨HB6.out, HRA6.out, HMA6.out⟩⟩
      case round =>
        clear HS6 HM6 HWA6 HRA6 HMA6 HB6
        obtain ⟨k, n, c, ec, A, E, hk, rfl, rfl, HST, HKP⟩ := hrel
        by_cases hlt : k < im
        · obtain ⟨it, hit⟩ : ∃ it, its[k]? = some it := ⟨_, List.getElem?_eq_getElem (by have := HI.out.len; omega)⟩
          have HIT := Lib.hid hit
          have hkz : (k : Int) < im := by omega
          have hkz0 : (0 : Int) ≤ k := by omega
          have HISr : Hid (IsOk wr B iA im ic its) := Lib.hid (HI.out.below (HKP.out.1.mono HLO.out))
          have HVr := Lib.hid (HVA.out HCV.out HMV.out it (List.mem_of_getElem? hit))
          have HBB : Hid (B ≤ base ∧ base ≤ wr.heap.size) := Lib.hid (by have h1 := HBS.out; have h2 := HLO.out; have h3 := HKP.out.1.size; omega)
          clear hit
          go_upto_if 51 with fail
          first
            | (go_step; refine scItem_any HISr.out HIT.out HKP.out.2.2 HKP.out.2.1 HST.out.2.1 HST.out.2.2 HVr.out.1 HVr.out.2.1 HVr.out.2.2 HST.out.1 HBB.out.1 HBB.out.2 (show base ≤ base + 1 + 1 by omega) (show base + 1 + 1 ≠ sA from HNS.out) ?_ ?_ ?_)
            | (go_step; go_step; refine scItem_any HISr.out HIT.out HKP.out.2.2 HKP.out.2.1 HST.out.2.1 HST.out.2.2 HVr.out.1 HVr.out.2.1 HVr.out.2.2 HST.out.1 HBB.out.1 HBB.out.2 (show base ≤ base + 1 + 1 by omega) (show base + 1 + 1 ≠ sA from HNS.out) ?_ ?_ ?_)
            | (go_step; go_step; go_step; refine scItem_any HISr.out HIT.out HKP.out.2.2 HKP.out.2.1 HST.out.2.1 HST.out.2.2 HVr.out.1 HVr.out.2.1 HVr.out.2.2 HST.out.1 HBB.out.1 HBB.out.2 (show base ≤ base + 1 + 1 by omega) (show base + 1 + 1 ≠ sA from HNS.out) ?_ ?_ ?_)
            | (go_step; go_step; go_step; go_step; refine scItem_any HISr.out HIT.out HKP.out.2.2 HKP.out.2.1 HST.out.2.1 HST.out.2.2 HVr.out.1 HVr.out.2.1 HVr.out.2.2 HST.out.1 HBB.out.1 HBB.out.2 (show base ≤ base + 1 + 1 by omega) (show base + 1 + 1 ≠ sA from HNS.out) ?_ ?_ ?_)
            | (go_step; go_step; go_step; go_step; go_step; refine scItem_any HISr.out HIT.out HKP.out.2.2 HKP.out.2.1 HST.out.2.1 HST.out.2.2 HVr.out.1 HVr.out.2.1 HVr.out.2.2 HST.out.1 HBB.out.1 HBB.out.2 (show base ≤ base + 1 + 1 by omega) (show base + 1 + 1 ≠ sA from HNS.out) ?_ ?_ ?_)
          · intros
            rename_i w7 H7
            have HSN : Hid (n ≤ 64 ∧ ScI w7 base sA A n c E ec gx gy st (bodiesF m0 m1 m2 (its.take (k + 1))) ∧ ScM w7 base mp n (slotM ((bodiesF m0 m1 m2 (its.take (k + 1))).map Prod.snd) 0 fun _ => none)) := Lib.hid (by
              rw [bodiesF_take HIT.out, H7.out.1]
              simp only [Option.map_none, Option.toList_none, List.append_nil]
              exact ⟨HST.out.1, HST.out.2.1.keep (F := []) (Kx.of_below H7.out.2) (by simp) (by simp) (by simp) (by simp), HST.out.2.2.m.keep (F := []) (Kz.of_below H7.out.2), HST.out.2.2.lo⟩)
            have HKN : Hid (Below w.heap.size w w7 ∧ Bk w7 (base + 2) 115 #[.slice none 0 0, .slice none 0 0, .slice none 0 0, .int .i64 0, .int .i64 0, .int .i64 0] ∧ Bk w7 mA 24 #[.int .i64 m0, .int .i64 m1, .int .i64 m2]) := Lib.hid ⟨HKP.out.1.trans (H7.out.2.mono HKP.out.1.size), HKP.out.2.1.below H7.out.2 HKP.out.2.1.lt, HKP.out.2.2.below H7.out.2 HKP.out.2.2.lt⟩
            clear HST HKP H7 HISr HVr HBB HIT
            go_wp2_with fail
            go_roundw
            case measure => simp [intOf]; omega
            case rel => exact ⟨k + 1, n, c, ec, A, E, by omega, by go_num, rfl, HSN, HKN⟩
          · intros
            rename_i gB cB gE cE b w7 H7
            have HSN : Hid (n + 1 ≤ 64 ∧ ScI w7 base sA (some ⟨gB, 0, none⟩) (n + 1) cB (some ⟨gE, 0, none⟩) cE gx gy st (bodiesF m0 m1 m2 (its.take (k + 1))) ∧ ScM w7 base mp (n + 1) (slotM ((bodiesF m0 m1 m2 (its.take (k + 1))).map Prod.snd) 0 fun _ => none)) := Lib.hid (by
              obtain ⟨p1, p2, p3, p4, p5, p6, p7⟩ := H7.out
              rw [bodiesF_take HIT.out, p2]
              simp only [Option.map_some, Option.toList_some]
              refine ⟨by omega, p3, ?_, p4.lo⟩
              rw [List.map_append, List.map_cons, List.map_nil, slotM_snoc]
              have e := HST.out.2.1.len
              rw [List.length_map, Nat.zero_add, ← e]
              exact p4.m)
            have HKN : Hid (Below w.heap.size w w7 ∧ Bk w7 (base + 2) 115 #[.slice none 0 0, .slice none 0 0, .slice none 0 0, .int .i64 0, .int .i64 0, .int .i64 0] ∧ Bk w7 mA 24 #[.int .i64 m0, .int .i64 m1, .int .i64 m2]) := Lib.hid ⟨HKP.out.1.trans (by rw [← HBS.out]; exact H7.out.2.2.2.2.2.2), H7.out.2.2.2.2.2.1, H7.out.2.2.2.2.1.bk HKP.out.2.2 (by decide)⟩
            clear HST HKP H7 HISr HVr HBB HIT
            go_wp2_with fail
            go_roundw
            case measure => simp [intOf]; omega
            case rel => exact ⟨k + 1, n + 1, cB, cE, some ⟨gB, 0, none⟩, some ⟨gE, 0, none⟩, by omega, by go_num, rfl, HSN, HKN⟩
          · intros
            rename_i w7 H7
            have HLEN : Hid (64 < Q.length) := Lib.hid (by
              obtain ⟨p1, p2, p3, p4⟩ := H7.out
              obtain ⟨b, hb⟩ := Option.isSome_iff_exists.1 p2
              have e := bodiesF_more (m0 := m0) (m1 := m1) (m2 := m2) (l := its) (k + 1)
              rw [bodiesF_take HIT.out, hb, List.length_append] at e
              have e2 := HST.out.2.1.len
              rw [HQ.out]
              simp at e
              omega)
            have HB7 : Hid (Below w.heap.size w w7) := Lib.hid (HKP.out.1.trans (by rw [← HBS.out]; exact H7.out.2.2.2))
            have HR7 : Hid (Bk w7 (base + 1 + 1) 115 #[.slice none 0 0, .slice none 0 0, .slice none 0 0, .int .i64 0, .int .i64 0, .int .i64 0]) := Lib.hid H7.out.2.2.1
            clear HST HKP H7 HISr HVr HBB HIT
            have z0 : w7.cell? ⟨base + 1 + 1, 0, none⟩ = some (.slice none 0 0) := HR7.out.cell 0
            have y0 := HR7.out.frozen 0
            have z1 : w7.cell? ⟨base + 1 + 1, 1, none⟩ = some (.slice none 0 0) := HR7.out.cell 1
            have y1 := HR7.out.frozen 1
            have z2 : w7.cell? ⟨base + 1 + 1, 2, none⟩ = some (.slice none 0 0) := HR7.out.cell 2
            have y2 := HR7.out.frozen 2
            have z3 : w7.cell? ⟨base + 1 + 1, 3, none⟩ = some (.int .i64 0) := HR7.out.cell 3
            have y3 := HR7.out.frozen 3
            have z4 : w7.cell? ⟨base + 1 + 1, 4, none⟩ = some (.int .i64 0) := HR7.out.cell 4
            have y4 := HR7.out.frozen 4
            have z5 : w7.cell? ⟨base + 1 + 1, 5, none⟩ = some (.int .i64 0) := HR7.out.cell 5
            have y5 := HR7.out.frozen 5
            go_wp2_with fail
            (try simp only [Exit.inBlock, Exit.then])
            refine bodyPost_ret (v := .tuple #[.agg #[.slice none 0 0, .slice none 0 0, .slice none 0 0, .int .i64 0, .int .i64 0, .int .i64 0], .slice none 0 0, .int .i64 2]) ?_ rfl ?_
            · rw [results_ctt rfl]
              go_simp
            · exact ⟨HB7.out, .inr (.inr (.inl ⟨HCV.out, HMV.out, HLEN.out, rfl⟩))⟩
        · obtain rfl : im = k := by omega
          have HEND : Hid (its.take im = its) := Lib.hid (by rw [HI.out.len]; exact List.take_length)
          obtain ⟨F, hF⟩ : ∃ F, F = slotM (Q.map Prod.snd) 0 fun _ => none := ⟨_, rfl⟩
          have HFF := Lib.hid hF
          have HBQ : Hid (n ≤ 64 ∧ n = Q.length) := Lib.hid ⟨HST.out.1, by rw [HQ.out, ← HEND.out]; exact HST.out.2.1.len⟩
          have HSC : Hid (ScI wr base sA A n c E ec gx gy st Q) := Lib.hid (by rw [HQ.out, ← HEND.out]; exact HST.out.2.1)
          have HMP : Hid (ScM wr base mp n F) := Lib.hid (by rw [hF, HQ.out, ← HEND.out]; exact HST.out.2.2)
          have HSA : Hid (base ≤ sA) := Lib.hid HST.out.2.1.lo
          have HCO : Hid (Bk wr sA 115 #[.slice A n c, .slice none 0 0, .slice none 0 0, .int .i64 gx, .int .i64 gy, .int .i64 st]) := Lib.hid HST.out.2.1.s
          have HBW : Hid (base ≤ wr.heap.size ∧ B ≤ base) := Lib.hid (by have h1 := HBS.out; have h2 := HKP.out.1.size; have h3 := HLO.out; omega)
          have HBR : Hid (Below w.heap.size w wr ∧ Bk wr (base + 1 + 1) 115 #[.slice none 0 0, .slice none 0 0, .slice none 0 0, .int .i64 0, .int .i64 0, .int .i64 0]) := Lib.hid ⟨HKP.out.1, HKP.out.2.1⟩
          have hcn : cn ≤ cc := hcap
          obtain ⟨wi, hwi⟩ : ∃ z, z = wr := ⟨_, rfl⟩
          have HWI := Lib.hid hwi
          clear hF HST HKP hwi
          go_wp2_with fail
          go_loopw [86] (fun jv wx => ∃ (j : Nat), j ≤ cn ∧ jv = .int .i64 j ∧ Hid (∃ pA pn pc, Bk wx sA 115 #[.slice A n c, .slice none 0 0, .slice pA pn pc, .int .i64 gx, .int .i64 gy, .int .i64 st] ∧ wx.ownsRow base 131 10 (.slice pA pn pc) pn (ctCs (ctsF F (cl.take j))) ∧ pn ≤ j) ∧ Hid (Kz [131, 115] wi wx ∧ Below base wi wx ∧ ∀ g cs, g ≠ sA → Bk wi g 115 cs → Bk wx g 115 cs)) (fun jv _ => cn - (intOf jv).toNat)
          case atStart => exact ⟨0, Nat.zero_le _, rfl, Lib.hid ⟨none, 0, 0, HCO.out, by simpa [ctsF, ctCs] using World.ownsRow_nil _ _ _ _, Nat.le_refl _⟩, Lib.hid (by rw [HWI.out]; exact ⟨Kz.refl, Below.refl _ _, fun _ _ _ h => h⟩)⟩
          case round =>
            clear HCO
            obtain ⟨j, hj, rfl, HCS, HCK⟩ := hrel
            by_cases hlt2 : j < cn
            · obtain ⟨ct, hct⟩ : ∃ ct, cl[j]? = some ct := ⟨_, List.getElem?_eq_getElem (by have := HRD.out.2.1; omega)⟩
              have HCT := Lib.hid hct
              have hjz : (j : Int) < cn := by omega
              have hjz0 : (0 : Int) ≤ j := by omega
              clear hct
              obtain ⟨pA, pn, pc, hcs⟩ := HCS.out
              have HCS := Lib.hid hcs
              clear hcs
              have HRC : Hid (Rd wr B 10 cA cn (ctCs cl)) := Lib.hid (HRD.out.1.below ((HBR.out.1.mono HLO.out).trans (by rw [← HWI.out]; exact HCK.out.2.1.mono HBW.out.2)))
              have HMR : Hid (MpI wr mp n F) := Lib.hid (HMP.out.m.keep (by rw [← HWI.out]; exact HCK.out.1))
              have HPN : Hid ((pn + 1) * 80 ≤ 140737488355328) := Lib.hid (by have h1 := HCS.out.2.2; have h2 := HRD.out.2.2.2.2.1; omega)
              have HSZ : Hid (base ≤ wr.heap.size) := Lib.hid (by have h1 := HBW.out.1; have h2 := HCK.out.2.1.size; have h3 := HWI.out; subst h3; omega)
              go_upto_if 87 with fail
              first
                | (go_step; refine scCon_any HRC.out HRD.out.2.1 HRD.out.2.2.1 HRD.out.2.2.2.1 HCT.out (HRD.out.2.2.2.2.2 ct (List.mem_of_getElem? HCT.out)).1 (HRD.out.2.2.2.2.2 ct (List.mem_of_getElem? HCT.out)).2 HMR.out HCS.out.1 HCS.out.2.1 HPN.out HSZ.out HSA.out ?_)
                | (go_step; go_step; refine scCon_any HRC.out HRD.out.2.1 HRD.out.2.2.1 HRD.out.2.2.2.1 HCT.out (HRD.out.2.2.2.2.2 ct (List.mem_of_getElem? HCT.out)).1 (HRD.out.2.2.2.2.2 ct (List.mem_of_getElem? HCT.out)).2 HMR.out HCS.out.1 HCS.out.2.1 HPN.out HSZ.out HSA.out ?_)
                | (go_step; go_step; go_step; refine scCon_any HRC.out HRD.out.2.1 HRD.out.2.2.1 HRD.out.2.2.2.1 HCT.out (HRD.out.2.2.2.2.2 ct (List.mem_of_getElem? HCT.out)).1 (HRD.out.2.2.2.2.2 ct (List.mem_of_getElem? HCT.out)).2 HMR.out HCS.out.1 HCS.out.2.1 HPN.out HSZ.out HSA.out ?_)
                | (go_step; go_step; go_step; go_step; refine scCon_any HRC.out HRD.out.2.1 HRD.out.2.2.1 HRD.out.2.2.2.1 HCT.out (HRD.out.2.2.2.2.2 ct (List.mem_of_getElem? HCT.out)).1 (HRD.out.2.2.2.2.2 ct (List.mem_of_getElem? HCT.out)).2 HMR.out HCS.out.1 HCS.out.2.1 HPN.out HSZ.out HSA.out ?_)
                | (go_step; go_step; go_step; go_step; go_step; refine scCon_any HRC.out HRD.out.2.1 HRD.out.2.2.1 HRD.out.2.2.2.1 HCT.out (HRD.out.2.2.2.2.2 ct (List.mem_of_getElem? HCT.out)).1 (HRD.out.2.2.2.2.2 ct (List.mem_of_getElem? HCT.out)).2 HMR.out HCS.out.1 HCS.out.2.1 HPN.out HSZ.out HSA.out ?_)
              intros
              rename_i w7 H7
              have HSN : Hid (∃ pA pn pc, Bk w7 sA 115 #[.slice A n c, .slice none 0 0, .slice pA pn pc, .int .i64 gx, .int .i64 gy, .int .i64 st] ∧ w7.ownsRow base 131 10 (.slice pA pn pc) pn (ctCs (ctsF F (cl.take (j + 1)))) ∧ pn ≤ j + 1) := Lib.hid (by
                obtain ⟨⟨qA, qn, qc, p1, p2, p3⟩, _⟩ := H7.out
                refine ⟨qA, qn, qc, p1, ?_, by have := HCS.out.2.2; omega⟩
                rw [ctsF_take HCT.out]
                exact p2)
              have HKN : Hid (Kz [131, 115] wi w7 ∧ Below base wi w7 ∧ ∀ g cs, g ≠ sA → Bk wi g 115 cs → Bk w7 g 115 cs) := Lib.hid ⟨HCK.out.1.trans H7.out.2.1, HCK.out.2.1.trans H7.out.2.2.1, fun g cs hg hh => H7.out.2.2.2 g cs hg (HCK.out.2.2 g cs hg hh)⟩
              clear HCS HCK H7 HRC HMR HPN HSZ HCT
              go_wp2_with fail
              go_roundw
              case measure => simp [intOf]; omega
              case rel => exact ⟨j + 1, by omega, by go_num, HSN, HKN⟩
            · obtain rfl : cn = j := by omega
              obtain ⟨pA, pn, pc, hcs⟩ := HCS.out
              have HCS := Lib.hid hcs
              clear hcs
              have HR8 : Hid (Bk wr (base + 1 + 1) 115 #[.slice none 0 0, .slice none 0 0, .slice none 0 0, .int .i64 0, .int .i64 0, .int .i64 0]) := Lib.hid (HCK.out.2.2 _ _ (show base + 1 + 1 ≠ sA from HNS.out) (by rw [HWI.out]; exact HBR.out.2))
              have HB8 : Hid (Below base w wr) := Lib.hid ((by rw [HBS.out]; exact HBR.out.1 : Below base w _).trans (by rw [← HWI.out]; exact HCK.out.2.1))
              have s0 : wr.cell? ⟨sA, 0, none⟩ = some (.slice A n c) := HCS.out.1.cell 0
              have s1 : wr.cell? ⟨sA, 1, none⟩ = some (.slice none 0 0) := HCS.out.1.cell 1
              have s2 : wr.cell? ⟨sA, 2, none⟩ = some (.slice pA pn pc) := HCS.out.1.cell 2
              have s3 : wr.cell? ⟨sA, 3, none⟩ = some (.int .i64 gx) := HCS.out.1.cell 3
              have s4 : wr.cell? ⟨sA, 4, none⟩ = some (.int .i64 gy) := HCS.out.1.cell 4
              have s5 : wr.cell? ⟨sA, 5, none⟩ = some (.int .i64 st) := HCS.out.1.cell 5
              have z0 : wr.cell? ⟨base + 1 + 1, 0, none⟩ = some (.slice none 0 0) := HR8.out.cell 0
              have y0 := HR8.out.frozen 0
              have z1 : wr.cell? ⟨base + 1 + 1, 1, none⟩ = some (.slice none 0 0) := HR8.out.cell 1
              have y1 := HR8.out.frozen 1
              have z2 : wr.cell? ⟨base + 1 + 1, 2, none⟩ = some (.slice none 0 0) := HR8.out.cell 2
              have y2 := HR8.out.frozen 2
              have z3 : wr.cell? ⟨base + 1 + 1, 3, none⟩ = some (.int .i64 0) := HR8.out.cell 3
              have y3 := HR8.out.frozen 3
              have z4 : wr.cell? ⟨base + 1 + 1, 4, none⟩ = some (.int .i64 0) := HR8.out.cell 4
              have y4 := HR8.out.frozen 4
              have z5 : wr.cell? ⟨base + 1 + 1, 5, none⟩ = some (.int .i64 0) := HR8.out.cell 5
              have y5 := HR8.out.frozen 5
              go_wp2_with fail
              (try simp only [Exit.inBlock, Exit.then])
              refine bodyPost_ret (v := .tuple #[.agg #[.slice A n c, .slice none 0 0, .slice pA pn pc, .int .i64 gx, .int .i64 gy, .int .i64 st], .slice E n ec, .int .i64 0]) ?_ rfl ?_
              · rw [results_ctt rfl]
                go_simp
              · have hk8 : Kx 0 [131, 115] wr (((((((wr.setCell ⟨base + 1 + 1, 0, none⟩ (.slice A n c)).setCell ⟨base + 1 + 1, 1, none⟩ (.slice none 0 0)).setCell ⟨base + 1 + 1, 2, none⟩ (.slice pA pn pc)).setCell ⟨base + 1 + 1, 3, none⟩ (.int .i64 gx)).setCell ⟨base + 1 + 1, 4, none⟩ (.int .i64 gy)).setCell ⟨base + 1 + 1, 5, none⟩ (.int .i64 st))) := (((((((Kx.refl (B := 0)).set HR8.out (Nat.zero_le _) (by simp) 0 _).set (HR8.out.set_ 0 (.slice A n c)) (Nat.zero_le _) (by simp) 1 _).set ((HR8.out.set_ 0 (.slice A n c)).set_ 1 (.slice none 0 0)) (Nat.zero_le _) (by simp) 2 _).set (((HR8.out.set_ 0 (.slice A n c)).set_ 1 (.slice none 0 0)).set_ 2 (.slice pA pn pc)) (Nat.zero_le _) (by simp) 3 _).set ((((HR8.out.set_ 0 (.slice A n c)).set_ 1 (.slice none 0 0)).set_ 2 (.slice pA pn pc)).set_ 3 (.int .i64 gx)) (Nat.zero_le _) (by simp) 4 _).set (((((HR8.out.set_ 0 (.slice A n c)).set_ 1 (.slice none 0 0)).set_ 2 (.slice pA pn pc)).set_ 3 (.int .i64 gx)).set_ 4 (.int .i64 gy)) (Nat.zero_le _) (by simp) 5 _)
                have hkk : Kx 0 [131, 115] wi (((((((wr.setCell ⟨base + 1 + 1, 0, none⟩ (.slice A n c)).setCell ⟨base + 1 + 1, 1, none⟩ (.slice none 0 0)).setCell ⟨base + 1 + 1, 2, none⟩ (.slice pA pn pc)).setCell ⟨base + 1 + 1, 3, none⟩ (.int .i64 gx)).setCell ⟨base + 1 + 1, 4, none⟩ (.int .i64 gy)).setCell ⟨base + 1 + 1, 5, none⟩ (.int .i64 st))) := HCK.out.1.kx.trans hk8
                have hlo : base ≤ base + 1 + 1 := by omega
                refine ⟨?_, .inr (.inr (.inr ⟨HCV.out, HMV.out, by have h1 := HBQ.out; omega, A, n, c, pA, pn, pc, E, ec, rfl, ?_, ?_, HBQ.out.2, ?_⟩))⟩
                · rw [← HBS.out]
                  have hbx := HB8.out
                  (repeat' first | with_reducible exact hbx | with_reducible refine Below.setCell ?_ hlo _)
                · rw [← HBS.out]
                  obtain ⟨l, hl, hlq⟩ := HSC.out.bm
                  rw [← HWI.out] at hl
                  exact ⟨l, hl.keep hkk (by decide) (by decide), hlq⟩
                · rw [← HBS.out]
                  have := HSC.out.en
                  rw [← HWI.out] at this
                  exact hkk.own this (by decide)
                · rw [← HBS.out, ← HFF.out]
                  have hx : Kx 0 [115] wr (((((((wr.setCell ⟨base + 1 + 1, 0, none⟩ (.slice A n c)).setCell ⟨base + 1 + 1, 1, none⟩ (.slice none 0 0)).setCell ⟨base + 1 + 1, 2, none⟩ (.slice pA pn pc)).setCell ⟨base + 1 + 1, 3, none⟩ (.int .i64 gx)).setCell ⟨base + 1 + 1, 4, none⟩ (.int .i64 gy)).setCell ⟨base + 1 + 1, 5, none⟩ (.int .i64 st))) := (((((((Kx.refl (B := 0)).set HR8.out (Nat.zero_le _) (by simp) 0 _).set (HR8.out.set_ 0 (.slice A n c)) (Nat.zero_le _) (by simp) 1 _).set ((HR8.out.set_ 0 (.slice A n c)).set_ 1 (.slice none 0 0)) (Nat.zero_le _) (by simp) 2 _).set (((HR8.out.set_ 0 (.slice A n c)).set_ 1 (.slice none 0 0)).set_ 2 (.slice pA pn pc)) (Nat.zero_le _) (by simp) 3 _).set ((((HR8.out.set_ 0 (.slice A n c)).set_ 1 (.slice none 0 0)).set_ 2 (.slice pA pn pc)).set_ 3 (.int .i64 gx)) (Nat.zero_le _) (by simp) 4 _).set (((((HR8.out.set_ 0 (.slice A n c)).set_ 1 (.slice none 0 0)).set_ 2 (.slice pA pn pc)).set_ 3 (.int .i64 gx)).set_ 4 (.int .i64 gy)) (Nat.zero_le _) (by simp) 5 _)
                  have := HCS.out.2.1
                  rw [HRD.out.2.1, List.take_length] at this
                  exact hx.own this (by decide)
    · have HMV := Lib.hid hm
      have t1 : (mv != 0) = true := by simpa using hm
      clear hm
      have z0 : W4.cell? ⟨base + 2, 0, none⟩ = some (.slice none 0 0) := HRA4.out.cell 0
      have y0 := HRA4.out.frozen 0
      have z1 : W4.cell? ⟨base + 2, 1, none⟩ = some (.slice none 0 0) := HRA4.out.cell 1
      have y1 := HRA4.out.frozen 1
      have z2 : W4.cell? ⟨base + 2, 2, none⟩ = some (.slice none 0 0) := HRA4.out.cell 2
      have y2 := HRA4.out.frozen 2
      have z3 : W4.cell? ⟨base + 2, 3, none⟩ = some (.int .i64 0) := HRA4.out.cell 3
      have y3 := HRA4.out.frozen 3
      have z4 : W4.cell? ⟨base + 2, 4, none⟩ = some (.int .i64 0) := HRA4.out.cell 4
      have y4 := HRA4.out.frozen 4
      have z5 : W4.cell? ⟨base + 2, 5, none⟩ = some (.int .i64 0) := HRA4.out.cell 5
      have y5 := HRA4.out.frozen 5
      go_wp2_with fail
      (try simp only [Exit.inBlock, Exit.then])
      refine bodyPost_ret (v := .tuple #[.agg #[.slice none 0 0, .slice none 0 0, .slice none 0 0, .int .i64 0, .int .i64 0, .int .i64 0], .slice none 0 0, .int .i64 mv]) ?_ rfl ?_
      · rw [results_ctt rfl]
        go_simp
      · refine ⟨?_, .inr (.inl ⟨HCV.out, HMV.out, rfl⟩)⟩
        have hlo : w.heap.size ≤ base + 2 := by have := HBS.out; omega
        have hbx := HB4.out
        (repeat' first | with_reducible exact hbx | with_reducible refine Below.setCell ?_ hlo _)
  · have HCV := Lib.hid hc
    have t0 : (cv != 0) = true := by simpa using hc
    clear hc
    have z0 : w2.cell? ⟨base + 2, 0, none⟩ = some (.slice none 0 0) := HRA2.out.cell 0
    have y0 := HRA2.out.frozen 0
    have z1 : w2.cell? ⟨base + 2, 1, none⟩ = some (.slice none 0 0) := HRA2.out.cell 1
    have y1 := HRA2.out.frozen 1
    have z2 : w2.cell? ⟨base + 2, 2, none⟩ = some (.slice none 0 0) := HRA2.out.cell 2
    have y2 := HRA2.out.frozen 2
    have z3 : w2.cell? ⟨base + 2, 3, none⟩ = some (.int .i64 0) := HRA2.out.cell 3
    have y3 := HRA2.out.frozen 3
    have z4 : w2.cell? ⟨base + 2, 4, none⟩ = some (.int .i64 0) := HRA2.out.cell 4
    have y4 := HRA2.out.frozen 4
    have z5 : w2.cell? ⟨base + 2, 5, none⟩ = some (.int .i64 0) := HRA2.out.cell 5
    have y5 := HRA2.out.frozen 5
    go_wp2_with fail
    (try simp only [Exit.inBlock, Exit.then])
    refine bodyPost_ret (v := .tuple #[.agg #[.slice none 0 0, .slice none 0 0, .slice none 0 0, .int .i64 0, .int .i64 0, .int .i64 0], .slice none 0 0, .int .i64 cv]) ?_ rfl ?_
    · rw [results_ctt rfl]
      go_simp
    · refine ⟨?_, .inl ⟨HCV.out, rfl⟩⟩
      have hlo : w.heap.size ≤ base + 2 := by have := HBS.out; omega
      have hbx := HB2.out
      (repeat' first | with_reducible exact hbx | with_reducible refine Below.setCell ?_ hlo _)
end Go.Proofs.Ytnidcmhfbkdioaa
