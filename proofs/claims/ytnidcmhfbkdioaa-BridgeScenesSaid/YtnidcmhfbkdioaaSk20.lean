/-
  Lemmas for the walk, merged (Bj Bl Bo Bn). No condition but those in each statement.
-/
import Derived.Test.YtnidcmhfbkdioaaSk17
import Derived.Test.YtnidcmhfbkdioaaSk19
import Derived.Test.YtnidcmhfbkdioaaSk14
import Derived.Test.YtnidcmhfbkdioaaSk10
import Derived.Test.YtnidcmhfbkdioaaSk15
import Derived.Test.YtnidcmhfbkdioaaSk11
import Derived.Test.YtnidcmhfbkdioaaSk9
import Derived.Test.YtnidcmhfbkdioaaSk13
namespace Go.Proofs.Ytnidcmhfbkdioaa
/-! ### Bj -/
open Go.RowKit
set_option maxRecDepth 100000
theorem results_ctt {fn : Func} {p q r : Tmp} {ty : TypeId} (h : fn.results = #[.cell p ty, .tmp q, .tmp r]) (tmps : Array Value) (P : Program) (w : World) :
    (results fn tmps).run P w =
      ((asAddr (tmps.getD p undef)).run P w).andThen fun a w₁ => ((loadVar ty a).run P w₁).andThen fun v w₂ => .ok (.tuple #[v, tmps.getD q undef, tmps.getD r undef]) w₂ := by
  simp only [results, h]
  simp [Sem.run_bind, Result.andThen]
/-- What a scene reads as. -/
structure ScR (w : World) (base : Nat) (A : Option Addr) (n c : Nat) (kA : Option Addr) (kn kc : Nat) (E : Option Addr) (ec : Nat) (q : List (Bo × (Int × Int))) (D : List Ct) : Prop where
  bm : ∃ l, BmI w base A n c l ∧ l.map Bm.b = q.map Prod.fst
  en : w.ownsRow base 128 2 (.slice E n ec) n (enCs (q.map Prod.snd))
  len : n = q.length
  ct : w.ownsRow base 131 10 (.slice kA kn kc) kn (ctCs D)
def ScP (w : World) (cv mv gx gy st : Int) (q : List (Bo × (Int × Int))) (D : List Ct) (e : Ending) (w' : World) : Prop :=
  Below w.heap.size w w' ∧
  ((cv ≠ 0 ∧ e = .returned (.tuple #[.agg #[.slice none 0 0, .slice none 0 0, .slice none 0 0, .int .i64 0, .int .i64 0, .int .i64 0], .slice none 0 0, .int .i64 cv])) ∨
   (cv = 0 ∧ mv ≠ 0 ∧ e = .returned (.tuple #[.agg #[.slice none 0 0, .slice none 0 0, .slice none 0 0, .int .i64 0, .int .i64 0, .int .i64 0], .slice none 0 0, .int .i64 mv])) ∨
   (cv = 0 ∧ mv = 0 ∧ 64 < q.length ∧ e = .returned (.tuple #[.agg #[.slice none 0 0, .slice none 0 0, .slice none 0 0, .int .i64 0, .int .i64 0, .int .i64 0], .slice none 0 0, .int .i64 2])) ∨
   (cv = 0 ∧ mv = 0 ∧ q.length ≤ 64 ∧ ∃ A n c kA kn kc E ec, e = .returned (.tuple #[.agg #[.slice A n c, .slice none 0 0, .slice kA kn kc, .int .i64 gx, .int .i64 gy, .int .i64 st], .slice E n ec, .int .i64 0]) ∧ ScR w' w.heap.size A n c kA kn kc E ec q D))
theorem bodiesF_take {m0 m1 m2 : Int} {l : List It} {k : Nat} {it : It} (h : l[k]? = some it) : bodiesF m0 m1 m2 (l.take (k + 1)) = bodiesF m0 m1 m2 (l.take k) ++ ((bodyF m0 m1 m2 it.cms).map fun b => (b, (it.e, it.g))).toList := by
  unfold bodiesF
  rw [List.take_add_one, h, List.filterMap_append]
  cases hb : bodyF m0 m1 m2 it.cms <;> simp [hb]
theorem bodiesF_more {m0 m1 m2 : Int} {l : List It} (k : Nat) : (bodiesF m0 m1 m2 (l.take k)).length ≤ (bodiesF m0 m1 m2 l).length := by
  unfold bodiesF
  exact ((List.take_sublist k l).filterMap _).length_le
def ctsF (f : Int → Option Int) (l : List Ct) : List Ct := l.flatMap (ctF1 f)
theorem ctsF_take {f : Int → Option Int} {l : List Ct} {k : Nat} {c : Ct} (h : l[k]? = some c) : ctsF f (l.take (k + 1)) = ctsF f (l.take k) ++ ctF1 f c := by
  unfold ctsF
  rw [List.take_add_one, h, List.flatMap_append]
  simp
set_option maxHeartbeats 16000000 in
theorem scene_any {w : World} {B cn cc : Nat} {cA : Option Addr} {cl : List Ct} {x : Wd} {gx gy st m0 m1 m2 cv mv : Int} (h : WdOk w B x) (hrd : Rd w B 10 cA cn (ctCs cl)) (hcl : cn = cl.length) (hcap : cn ≤ cc) (hcap2 : cc ≤ 9223372036854775807) (hcn : cn * 80 ≤ 140737488355328)
    (hwf : ∀ c ∈ cl, (Lit.int .i64 c.a).wf = true ∧ (Lit.int .i64 c.b).wf = true) (hcv : cv = wcheckF x.p) (hmv : mapF (x.ks.map Kd.p) = ((m0, m1, m2), mv))
    (hva : cv = 0 → mv = 0 → ∀ it ∈ x.its, VaOk it.cms m0 3 ∧ VaOk it.cms m1 4 ∧ VaOk it.cms m2 5) :
    Calls Try.prog 56 #[x.v, .slice cA cn cc, .agg #[.int .i64 gx, .int .i64 gy], .int .i64 st] w (ScP w cv mv gx gy st (bodiesF m0 m1 m2 x.its) (ctsF (slotM ((bodiesF m0 m1 m2 x.its).map Prod.snd) 0 fun _ => none) cl)) := by
  have hck0 := fun (w1 : World) (hb : Below w.heap.size w w1) => wcheck_any (h.below (hb.mono h.ks.lo))
  rw [← hcv] at hck0
  have hof0 := fun (w1 : World) (hb : Below w.heap.size w w1) => of_says (h.ks.below (hb.mono h.ks.lo))
  rw [hmv] at hof0
  obtain ⟨kA, kn, kc, ks, gA, gn, gc, gens, iA, im, ic, its⟩ := x
  obtain ⟨hk, hg, hi⟩ := h
  dsimp only at hk hg hi hck0 hof0 hva
  dsimp only [Wd.v] at hck0 ⊢
  clear hcv hmv
  obtain ⟨Q, hQ⟩ : ∃ Q, Q = bodiesF m0 m1 m2 its := ⟨_, rfl⟩
  rw [← hQ]
  obtain ⟨base, hbase⟩ : ∃ z, z = w.heap.size := ⟨_, rfl⟩
  obtain ⟨W0, hW0⟩ : ∃ z, z = ((w.alloc (.cells #[.slice kA kn kc, .slice gA gn gc, .slice iA im ic] 52)).alloc (.cells #[.int .i64 gx, .int .i64 gy] 105)).alloc (.cells #[.slice none 0 0, .slice none 0 0, .slice none 0 0, .int .i64 0, .int .i64 0, .int .i64 0] 115) := ⟨_, rfl⟩
  have hb0 : Below w.heap.size w W0 := by rw [hW0]; exact (((Below.refl _ _).alloc (Nat.le_refl _) _).alloc (by simp) _).alloc (by simp; omega) _
  have HWA : Hid (Bk W0 base 52 #[.slice kA kn kc, .slice gA gn gc, .slice iA im ic]) := Lib.hid (by rw [hW0, hbase]; exact ((Bk.new _ _ _).alloc _).alloc _)
  have HGA : Hid (Bk W0 (base + 1) 105 #[.int .i64 gx, .int .i64 gy]) := Lib.hid (by rw [hW0, hbase]; exact (Bk.twoB _ _ _ _).alloc _)
  have HRA : Hid (Bk W0 (base + 2) 115 #[.slice none 0 0, .slice none 0 0, .slice none 0 0, .int .i64 0, .int .i64 0, .int .i64 0]) := Lib.hid (by
    rw [hW0, hbase]
    simpa using Bk.new ((w.alloc (.cells #[.slice kA kn kc, .slice gA gn gc, .slice iA im ic] 52)).alloc (.cells #[.int .i64 gx, .int .i64 gy] 105)) 115 #[.slice none 0 0, .slice none 0 0, .slice none 0 0, .int .i64 0, .int .i64 0, .int .i64 0])
  have HCK := Lib.hid hck0
  have HOF := Lib.hid hof0
  have HI := Lib.hid hi
  have HVA := Lib.hid hva
  have HRD : Hid (Rd w B 10 cA cn (ctCs cl) ∧ cn = cl.length ∧ cn ≤ cc ∧ cc ≤ 9223372036854775807 ∧ cn * 80 ≤ 140737488355328 ∧ ∀ c ∈ cl, (Lit.int .i64 c.a).wf = true ∧ (Lit.int .i64 c.b).wf = true) := Lib.hid ⟨hrd, hcl, hcap, hcap2, hcn, hwf⟩
  have HB0 := Lib.hid hb0
  have HQ := Lib.hid hQ
  have HBS : Hid (base = w.heap.size) := Lib.hid hbase
  have HLO : Hid (B ≤ w.heap.size) := Lib.hid hi.lo
  have hicap := hi.cap
  have hicap2 := hi.cap2
  clear hk hg hi hck0 hof0 hva hrd hcl hwf hb0 hQ hcn
  go_enter Try.func56, Try.ntmps56
  go_upto_region 1 with fail
  rw [← hW0, ← hbase]
  clear hW0 hbase
  have a0 : W0.cell? ⟨base, 0, none⟩ = some (.slice kA kn kc) := HWA.out.cell 0
  have a1 : W0.cell? ⟨base, 1, none⟩ = some (.slice gA gn gc) := HWA.out.cell 1
  have a2 : W0.cell? ⟨base, 2, none⟩ = some (.slice iA im ic) := HWA.out.cell 2
  go_wp2_with fail
  (with_reducible refine (HCK.out W0 HB0.out).mono ?_)
  rintro e w2 ⟨rfl, hb2⟩
  have HWA2 := Lib.hid (HWA.out.below hb2 HWA.out.lt)
  have HGA2 := Lib.hid (HGA.out.below hb2 HGA.out.lt)
  have HRA2 : Hid (Bk w2 (base + 2) 115 #[.slice none 0 0, .slice none 0 0, .slice none 0 0, .int .i64 0, .int .i64 0, .int .i64 0]) := Lib.hid (HRA.out.below hb2 HRA.out.lt)
  have HB2 : Hid (Below w.heap.size w w2) := Lib.hid (HB0.out.trans (hb2.mono HB0.out.size))
  clear a0 a1 a2 hb2 HWA HGA HRA HCK
  by_cases hc : cv = 0
  · have HCV := Lib.hid hc
    have t0 : (cv != 0) = false := by simpa using hc
    clear hc
    have b0 : w2.cell? ⟨base, 0, none⟩ = some (.slice kA kn kc) := HWA2.out.cell 0
    have b1 : w2.cell? ⟨base, 1, none⟩ = some (.slice gA gn gc) := HWA2.out.cell 1
    have b2 : w2.cell? ⟨base, 2, none⟩ = some (.slice iA im ic) := HWA2.out.cell 2
    go_wp2_with fail
    (with_reducible refine (HOF.out w2 HB2.out).mono ?_)
    rintro e w3 ⟨rfl, hb3⟩
    obtain ⟨mA, hmA⟩ : ∃ z, z = w3.heap.size := ⟨_, rfl⟩
    obtain ⟨W4, hW4⟩ : ∃ z, z = w3.alloc (.cells #[.int .i64 m0, .int .i64 m1, .int .i64 m2] 24) := ⟨_, rfl⟩
    have hb4 : Below w2.heap.size w2 W4 := by rw [hW4]; exact hb3.alloc hb3.size _
    have HMA : Hid (Bk W4 mA 24 #[.int .i64 m0, .int .i64 m1, .int .i64 m2]) := Lib.hid (by rw [hW4, hmA]; exact Bk.new _ _ _)
    have HWA4 := Lib.hid (HWA2.out.below hb4 HWA2.out.lt)
    have HGA4 := Lib.hid (HGA2.out.below hb4 HGA2.out.lt)
    have HRA4 : Hid (Bk W4 (base + 2) 115 #[.slice none 0 0, .slice none 0 0, .slice none 0 0, .int .i64 0, .int .i64 0, .int .i64 0]) := Lib.hid (HRA2.out.below hb4 HRA2.out.lt)
    have HB4 : Hid (Below w.heap.size w W4) := Lib.hid (HB2.out.trans (hb4.mono HB2.out.size))
    have HM0 : Hid (w.heap.size ≤ mA) := Lib.hid (by rw [hmA]; have h1 := HB2.out.size; have h2 := hb3.size; omega)
    clear b0 b1 b2 HWA2 HGA2 HRA2 hb4 HOF
    go_upto_region 5 with fail
    rw [← hW4, ← hmA]
    clear hW4 hmA hb3 HB2
    by_cases hm : mv = 0
    · have HMV := Lib.hid hm
      have t1 : (mv != 0) = false := by simpa using hm
      clear hm
      have b0 : W4.cell? ⟨base, 0, none⟩ = some (.slice kA kn kc) := HWA4.out.cell 0
      have b1 : W4.cell? ⟨base, 1, none⟩ = some (.slice gA gn gc) := HWA4.out.cell 1
      have b2 : W4.cell? ⟨base, 2, none⟩ = some (.slice iA im ic) := HWA4.out.cell 2
      have g0 : W4.cell? ⟨base + 1, 0, none⟩ = some (.int .i64 gx) := HGA4.out.cell 0
      have g1 : W4.cell? ⟨base + 1, 1, none⟩ = some (.int .i64 gy) := HGA4.out.cell 1
      obtain ⟨sA, hsA⟩ : ∃ z, z = W4.heap.size := ⟨_, rfl⟩
      obtain ⟨W5, hW5⟩ : ∃ z, z = W4.alloc (.cells #[.slice none 0 0, .slice none 0 0, .slice none 0 0, .int .i64 gx, .int .i64 gy, .int .i64 st] 115) := ⟨_, rfl⟩
      obtain ⟨mp, hmp⟩ : ∃ z, z = W5.heap.size := ⟨_, rfl⟩
      obtain ⟨W6, hW6⟩ : ∃ z, z = W5.alloc (.map #[] 0) := ⟨_, rfl⟩
      go_upto_region 8 with fail
      rw [← hW5, ← hsA]
      have hb5 : Below W4.heap.size W4 W5 := by rw [hW5]; exact (Below.refl _ _).alloc (Nat.le_refl _) _
      have HSA5 : Hid (Bk W5 sA 115 #[.slice none 0 0, .slice none 0 0, .slice none 0 0, .int .i64 gx, .int .i64 gy, .int .i64 st]) := Lib.hid (by rw [hW5, hsA]; exact Bk.new _ _ _)
      clear g0 g1 b0 b1 b2 hW5
      have hmm := @run_makeMap Try.prog
      go_upto_region 10 with fail
      clear hmm
      rw [← hW6, ← hmp]
      have hb6 : Below W4.heap.size W4 W6 := by rw [hW6]; exact hb5.alloc hb5.size _
      have HM6 : Hid (ScM W6 base mp 0 fun _ => none) := Lib.hid ⟨by rw [hW6, hmp]; exact MpI.made W5, by have h1 := HBS.out; have h2 := HB4.out.size; have h3 := hb5.size; rw [hmp]; omega⟩
      have HS6 : Hid (ScI W6 base sA none 0 0 none 0 gx gy st []) := Lib.hid ⟨by rw [hW6]; exact HSA5.out.alloc _, ⟨[], ⟨World.ownsRow_nil _ _ _ _, rfl, by simp⟩, rfl⟩, World.ownsRow_nil _ _ _ _, rfl, by have h1 := HBS.out; have h2 := HB4.out.size; rw [hsA]; omega⟩
      have HWA6 := Lib.hid (HWA4.out.below hb6 HWA4.out.lt)
      have HRA6 : Hid (Bk W6 (base + 2) 115 #[.slice none 0 0, .slice none 0 0, .slice none 0 0, .int .i64 0, .int .i64 0, .int .i64 0]) := Lib.hid (HRA4.out.below hb6 HRA4.out.lt)
      have HMA6 := Lib.hid (HMA.out.below hb6 HMA.out.lt)
      have HB6 : Hid (Below w.heap.size w W6) := Lib.hid (HB4.out.trans (hb6.mono HB4.out.size))
      have HNS : Hid (base + 2 ≠ sA) := Lib.hid (by rw [hsA]; have := HRA4.out.lt; omega)
      clear hW6 hmp hsA hb5 hb6 HSA5 HWA4 HGA4 HRA4 HMA HB4
      have b2 : W6.cell? ⟨base, 2, none⟩ = some (.slice iA im ic) := HWA6.out.cell 2
      go_wp2_with fail
      clear b2
      go_loopw [15, 50] (fun ev kv wx => ∃ (k n c ec : Nat) (A E : Option Addr), k ≤ im ∧ kv = .int .i64 k ∧ ev = .slice E n ec ∧ Hid (n ≤ 64 ∧ ScI wx base sA A n c E ec gx gy st (bodiesF m0 m1 m2 (its.take k)) ∧ ScM wx base mp n (slotM ((bodiesF m0 m1 m2 (its.take k)).map Prod.snd) 0 fun _ => none)) ∧ Hid (Below w.heap.size w wx ∧ Bk wx (base + 2) 115 #[.slice none 0 0, .slice none 0 0, .slice none 0 0, .int .i64 0, .int .i64 0, .int .i64 0] ∧ Bk wx mA 24 #[.int .i64 m0, .int .i64 m1, .int .i64 m2])) (fun _ kv _ => im - (intOf kv).toNat)
      case atStart => exact ⟨0, 0, 0, 0, none, none, by omega, rfl, rfl, Lib.hid ⟨by omega, by simpa [bodiesF] using HS6.out, by simpa [bodiesF, slotM] using HM6.out⟩, Lib.hid ⟨HB6.out, HRA6.out, HMA6.out⟩⟩
      case round =>
        clear HS6 HM6 HWA6 HRA6 HMA6 HB6
        obtain ⟨k, n, c, ec, A, E, hk, rfl, rfl, HST, HKP⟩ := hrel
        by_cases hlt : k < im
        · obtain ⟨it, hit⟩ : ∃ it, its[k]? = some it := ⟨_, List.getElem?_eq_getElem (by have := HI.out.len; omega)⟩
          have HIT := Lib.hid hit
          have hkz : (k : Int) < im := by omega
          have hkz0 : (0 : Int) ≤ k := by omega
          have HISr : Hid (IsOk wr B iA im ic its) := Lib.hid (HI.out.below (HKP.out.1.mono HLO.out))
          have HVr := Lib.hid (HVA.out HCV.out HMV.out it (List.mem_of_getElem? hit))
          have HBB : Hid (B ≤ base ∧ base ≤ wr.heap.size) := Lib.hid (by have h1 := HBS.out; have h2 := HLO.out; have h3 := HKP.out.1.size; omega)
          clear hit
          go_upto_if 51 with fail
          first
            | (go_step; refine scItem_any HISr.out HIT.out HKP.out.2.2 HKP.out.2.1 HST.out.2.1 HST.out.2.2 HVr.out.1 HVr.out.2.1 HVr.out.2.2 HST.out.1 HBB.out.1 HBB.out.2 (show base ≤ base + 1 + 1 by omega) (show base + 1 + 1 ≠ sA from HNS.out) ?_ ?_ ?_)
            | (go_step; go_step; refine scItem_any HISr.out HIT.out HKP.out.2.2 HKP.out.2.1 HST.out.2.1 HST.out.2.2 HVr.out.1 HVr.out.2.1 HVr.out.2.2 HST.out.1 HBB.out.1 HBB.out.2 (show base ≤ base + 1 + 1 by omega) (show base + 1 + 1 ≠ sA from HNS.out) ?_ ?_ ?_)
            | (go_step; go_step; go_step; refine scItem_any HISr.out HIT.out HKP.out.2.2 HKP.out.2.1 HST.out.2.1 HST.out.2.2 HVr.out.1 HVr.out.2.1 HVr.out.2.2 HST.out.1 HBB.out.1 HBB.out.2 (show base ≤ base + 1 + 1 by omega) (show base + 1 + 1 ≠ sA from HNS.out) ?_ ?_ ?_)
            | (go_step; go_step; go_step; go_step; refine scItem_any HISr.out HIT.out HKP.out.2.2 HKP.out.2.1 HST.out.2.1 HST.out.2.2 HVr.out.1 HVr.out.2.1 HVr.out.2.2 HST.out.1 HBB.out.1 HBB.out.2 (show base ≤ base + 1 + 1 by omega) (show base + 1 + 1 ≠ sA from HNS.out) ?_ ?_ ?_)
            | (go_step; go_step; go_step; go_step; go_step; refine scItem_any HISr.out HIT.out HKP.out.2.2 HKP.out.2.1 HST.out.2.1 HST.out.2.2 HVr.out.1 HVr.out.2.1 HVr.out.2.2 HST.out.1 HBB.out.1 HBB.out.2 (show base ≤ base + 1 + 1 by omega) (show base + 1 + 1 ≠ sA from HNS.out) ?_ ?_ ?_)
          · intros
            rename_i w7 H7
            have HSN : Hid (n ≤ 64 ∧ ScI w7 base sA A n c E ec gx gy st (bodiesF m0 m1 m2 (its.take (k + 1))) ∧ ScM w7 base mp n (slotM ((bodiesF m0 m1 m2 (its.take (k + 1))).map Prod.snd) 0 fun _ => none)) := Lib.hid (by
              rw [bodiesF_take HIT.out, H7.out.1]
              simp only [Option.map_none, Option.toList_none, List.append_nil]
              exact ⟨HST.out.1, HST.out.2.1.keep (F := []) (Kx.of_below H7.out.2) (by simp) (by simp) (by simp) (by simp), HST.out.2.2.m.keep (F := []) (Kz.of_below H7.out.2), HST.out.2.2.lo⟩)
            have HKN : Hid (Below w.heap.size w w7 ∧ Bk w7 (base + 2) 115 #[.slice none 0 0, .slice none 0 0, .slice none 0 0, .int .i64 0, .int .i64 0, .int .i64 0] ∧ Bk w7 mA 24 #[.int .i64 m0, .int .i64 m1, .int .i64 m2]) := Lib.hid ⟨HKP.out.1.trans (H7.out.2.mono HKP.out.1.size), HKP.out.2.1.below H7.out.2 HKP.out.2.1.lt, HKP.out.2.2.below H7.out.2 HKP.out.2.2.lt⟩
            clear HST HKP H7 HISr HVr HBB HIT
            go_wp2_with fail
            go_roundw
            case measure => simp [intOf]; omega
            case rel => exact ⟨k + 1, n, c, ec, A, E, by omega, by go_num, rfl, HSN, HKN⟩
          · intros
            rename_i gB cB gE cE b w7 H7
            have HSN : Hid (n + 1 ≤ 64 ∧ ScI w7 base sA (some ⟨gB, 0, none⟩) (n + 1) cB (some ⟨gE, 0, none⟩) cE gx gy st (bodiesF m0 m1 m2 (its.take (k + 1))) ∧ ScM w7 base mp (n + 1) (slotM ((bodiesF m0 m1 m2 (its.take (k + 1))).map Prod.snd) 0 fun _ => none)) := Lib.hid (by
              obtain ⟨p1, p2, p3, p4, p5, p6, p7⟩ := H7.out
              rw [bodiesF_take HIT.out, p2]
              simp only [Option.map_some, Option.toList_some]
              refine ⟨by omega, p3, ?_, p4.lo⟩
              rw [List.map_append, List.map_cons, List.map_nil, slotM_snoc]
              have e := HST.out.2.1.len
              rw [List.length_map, Nat.zero_add, ← e]
              exact p4.m)
            have HKN : Hid (Below w.heap.size w w7 ∧ Bk w7 (base + 2) 115 #[.slice none 0 0, .slice none 0 0, .slice none 0 0, .int .i64 0, .int .i64 0, .int .i64 0] ∧ Bk w7 mA 24 #[.int .i64 m0, .int .i64 m1, .int .i64 m2]) := Lib.hid ⟨HKP.out.1.trans (by rw [← HBS.out]; exact H7.out.2.2.2.2.2.2), H7.out.2.2.2.2.2.1, H7.out.2.2.2.2.1.bk HKP.out.2.2 (by decide)⟩
            clear HST HKP H7 HISr HVr HBB HIT
            go_wp2_with fail
            go_roundw
            case measure => simp [intOf]; omega
            case rel => exact ⟨k + 1, n + 1, cB, cE, some ⟨gB, 0, none⟩, some ⟨gE, 0, none⟩, by omega, by go_num, rfl, HSN, HKN⟩
          · intros
            rename_i w7 H7
            have HLEN : Hid (64 < Q.length) := Lib.hid (by
              obtain ⟨p1, p2, p3, p4⟩ := H7.out
              obtain ⟨b, hb⟩ := Option.isSome_iff_exists.1 p2
              have e := bodiesF_more (m0 := m0) (m1 := m1) (m2 := m2) (l := its) (k + 1)
              rw [bodiesF_take HIT.out, hb, List.length_append] at e
              have e2 := HST.out.2.1.len
              rw [HQ.out]
              simp at e
              omega)
            have HB7 : Hid (Below w.heap.size w w7) := Lib.hid (HKP.out.1.trans (by rw [← HBS.out]; exact H7.out.2.2.2))
            have HR7 : Hid (Bk w7 (base + 1 + 1) 115 #[.slice none 0 0, .slice none 0 0, .slice none 0 0, .int .i64 0, .int .i64 0, .int .i64 0]) := Lib.hid H7.out.2.2.1
            clear HST HKP H7 HISr HVr HBB HIT
            have z0 : w7.cell? ⟨base + 1 + 1, 0, none⟩ = some (.slice none 0 0) := HR7.out.cell 0
            have y0 := HR7.out.frozen 0
            have z1 : w7.cell? ⟨base + 1 + 1, 1, none⟩ = some (.slice none 0 0) := HR7.out.cell 1
            have y1 := HR7.out.frozen 1
            have z2 : w7.cell? ⟨base + 1 + 1, 2, none⟩ = some (.slice none 0 0) := HR7.out.cell 2
            have y2 := HR7.out.frozen 2
            have z3 : w7.cell? ⟨base + 1 + 1, 3, none⟩ = some (.int .i64 0) := HR7.out.cell 3
            have y3 := HR7.out.frozen 3
            have z4 : w7.cell? ⟨base + 1 + 1, 4, none⟩ = some (.int .i64 0) := HR7.out.cell 4
            have y4 := HR7.out.frozen 4
            have z5 : w7.cell? ⟨base + 1 + 1, 5, none⟩ = some (.int .i64 0) := HR7.out.cell 5
            have y5 := HR7.out.frozen 5
            go_wp2_with fail
            (try simp only [Exit.inBlock, Exit.then])
            refine bodyPost_ret (v := .tuple #[.agg #[.slice none 0 0, .slice none 0 0, .slice none 0 0, .int .i64 0, .int .i64 0, .int .i64 0], .slice none 0 0, .int .i64 2]) ?_ rfl ?_
            · rw [results_ctt rfl]
              go_simp
            · exact ⟨HB7.out, .inr (.inr (.inl ⟨HCV.out, HMV.out, HLEN.out, rfl⟩))⟩
        · obtain rfl : im = k := by omega
          have HEND : Hid (its.take im = its) := Lib.hid (by rw [HI.out.len]; exact List.take_length)
          obtain ⟨F, hF⟩ : ∃ F, F = slotM (Q.map Prod.snd) 0 fun _ => none := ⟨_, rfl⟩
          have HFF := Lib.hid hF
          have HBQ : Hid (n ≤ 64 ∧ n = Q.length) := Lib.hid ⟨HST.out.1, by rw [HQ.out, ← HEND.out]; exact HST.out.2.1.len⟩
          have HSC : Hid (ScI wr base sA A n c E ec gx gy st Q) := Lib.hid (by rw [HQ.out, ← HEND.out]; exact HST.out.2.1)
          have HMP : Hid (ScM wr base mp n F) := Lib.hid (by rw [hF, HQ.out, ← HEND.out]; exact HST.out.2.2)
          have HSA : Hid (base ≤ sA) := Lib.hid HST.out.2.1.lo
          have HCO : Hid (Bk wr sA 115 #[.slice A n c, .slice none 0 0, .slice none 0 0, .int .i64 gx, .int .i64 gy, .int .i64 st]) := Lib.hid HST.out.2.1.s
          have HBW : Hid (base ≤ wr.heap.size ∧ B ≤ base) := Lib.hid (by have h1 := HBS.out; have h2 := HKP.out.1.size; have h3 := HLO.out; omega)
          have HBR : Hid (Below w.heap.size w wr ∧ Bk wr (base + 1 + 1) 115 #[.slice none 0 0, .slice none 0 0, .slice none 0 0, .int .i64 0, .int .i64 0, .int .i64 0]) := Lib.hid ⟨HKP.out.1, HKP.out.2.1⟩
          have hcn : cn ≤ cc := hcap
          obtain ⟨wi, hwi⟩ : ∃ z, z = wr := ⟨_, rfl⟩
          have HWI := Lib.hid hwi
          clear hF HST HKP hwi
          go_wp2_with fail
          go_loopw [86] (fun jv wx => ∃ (j : Nat), j ≤ cn ∧ jv = .int .i64 j ∧ Hid (∃ pA pn pc, Bk wx sA 115 #[.slice A n c, .slice none 0 0, .slice pA pn pc, .int .i64 gx, .int .i64 gy, .int .i64 st] ∧ wx.ownsRow base 131 10 (.slice pA pn pc) pn (ctCs (ctsF F (cl.take j))) ∧ pn ≤ j) ∧ Hid (Kz [131, 115] wi wx ∧ Below base wi wx ∧ ∀ g cs, g ≠ sA → Bk wi g 115 cs → Bk wx g 115 cs)) (fun jv _ => cn - (intOf jv).toNat)
          case atStart => exact ⟨0, Nat.zero_le _, rfl, Lib.hid ⟨none, 0, 0, HCO.out, by simpa [ctsF, ctCs] using World.ownsRow_nil _ _ _ _, Nat.le_refl _⟩, Lib.hid (by rw [HWI.out]; exact ⟨Kz.refl, Below.refl _ _, fun _ _ _ h => h⟩)⟩
          case round =>
            clear HCO
            obtain ⟨j, hj, rfl, HCS, HCK⟩ := hrel
            by_cases hlt2 : j < cn
            · obtain ⟨ct, hct⟩ : ∃ ct, cl[j]? = some ct := ⟨_, List.getElem?_eq_getElem (by have := HRD.out.2.1; omega)⟩
              have HCT := Lib.hid hct
              have hjz : (j : Int) < cn := by omega
              have hjz0 : (0 : Int) ≤ j := by omega
              clear hct
              obtain ⟨pA, pn, pc, hcs⟩ := HCS.out
              have HCS := Lib.hid hcs
              clear hcs
              have HRC : Hid (Rd wr B 10 cA cn (ctCs cl)) := Lib.hid (HRD.out.1.below ((HBR.out.1.mono HLO.out).trans (by rw [← HWI.out]; exact HCK.out.2.1.mono HBW.out.2)))
              have HMR : Hid (MpI wr mp n F) := Lib.hid (HMP.out.m.keep (by rw [← HWI.out]; exact HCK.out.1))
              have HPN : Hid ((pn + 1) * 80 ≤ 140737488355328) := Lib.hid (by have h1 := HCS.out.2.2; have h2 := HRD.out.2.2.2.2.1; omega)
              have HSZ : Hid (base ≤ wr.heap.size) := Lib.hid (by have h1 := HBW.out.1; have h2 := HCK.out.2.1.size; have h3 := HWI.out; subst h3; omega)
              go_upto_if 87 with fail
              first
                | (go_step; refine scCon_any HRC.out HRD.out.2.1 HRD.out.2.2.1 HRD.out.2.2.2.1 HCT.out (HRD.out.2.2.2.2.2 ct (List.mem_of_getElem? HCT.out)).1 (HRD.out.2.2.2.2.2 ct (List.mem_of_getElem? HCT.out)).2 HMR.out HCS.out.1 HCS.out.2.1 HPN.out HSZ.out HSA.out ?_)
                | (go_step; go_step; refine scCon_any HRC.out HRD.out.2.1 HRD.out.2.2.1 HRD.out.2.2.2.1 HCT.out (HRD.out.2.2.2.2.2 ct (List.mem_of_getElem? HCT.out)).1 (HRD.out.2.2.2.2.2 ct (List.mem_of_getElem? HCT.out)).2 HMR.out HCS.out.1 HCS.out.2.1 HPN.out HSZ.out HSA.out ?_)
                | (go_step; go_step; go_step; refine scCon_any HRC.out HRD.out.2.1 HRD.out.2.2.1 HRD.out.2.2.2.1 HCT.out (HRD.out.2.2.2.2.2 ct (List.mem_of_getElem? HCT.out)).1 (HRD.out.2.2.2.2.2 ct (List.mem_of_getElem? HCT.out)).2 HMR.out HCS.out.1 HCS.out.2.1 HPN.out HSZ.out HSA.out ?_)
                | (go_step; go_step; go_step; go_step; refine scCon_any HRC.out HRD.out.2.1 HRD.out.2.2.1 HRD.out.2.2.2.1 HCT.out (HRD.out.2.2.2.2.2 ct (List.mem_of_getElem? HCT.out)).1 (HRD.out.2.2.2.2.2 ct (List.mem_of_getElem? HCT.out)).2 HMR.out HCS.out.1 HCS.out.2.1 HPN.out HSZ.out HSA.out ?_)
                | (go_step; go_step; go_step; go_step; go_step; refine scCon_any HRC.out HRD.out.2.1 HRD.out.2.2.1 HRD.out.2.2.2.1 HCT.out (HRD.out.2.2.2.2.2 ct (List.mem_of_getElem? HCT.out)).1 (HRD.out.2.2.2.2.2 ct (List.mem_of_getElem? HCT.out)).2 HMR.out HCS.out.1 HCS.out.2.1 HPN.out HSZ.out HSA.out ?_)
              intros
              rename_i w7 H7
              have HSN : Hid (∃ pA pn pc, Bk w7 sA 115 #[.slice A n c, .slice none 0 0, .slice pA pn pc, .int .i64 gx, .int .i64 gy, .int .i64 st] ∧ w7.ownsRow base 131 10 (.slice pA pn pc) pn (ctCs (ctsF F (cl.take (j + 1)))) ∧ pn ≤ j + 1) := Lib.hid (by
                obtain ⟨⟨qA, qn, qc, p1, p2, p3⟩, _⟩ := H7.out
                refine ⟨qA, qn, qc, p1, ?_, by have := HCS.out.2.2; omega⟩
                rw [ctsF_take HCT.out]
                exact p2)
              have HKN : Hid (Kz [131, 115] wi w7 ∧ Below base wi w7 ∧ ∀ g cs, g ≠ sA → Bk wi g 115 cs → Bk w7 g 115 cs) := Lib.hid ⟨HCK.out.1.trans H7.out.2.1, HCK.out.2.1.trans H7.out.2.2.1, fun g cs hg hh => H7.out.2.2.2 g cs hg (HCK.out.2.2 g cs hg hh)⟩
              clear HCS HCK H7 HRC HMR HPN HSZ HCT
              go_wp2_with fail
              go_roundw
              case measure => simp [intOf]; omega
              case rel => exact ⟨j + 1, by omega, by go_num, HSN, HKN⟩
            · obtain rfl : cn = j := by omega
              obtain ⟨pA, pn, pc, hcs⟩ := HCS.out
              have HCS := Lib.hid hcs
              clear hcs
              have HR8 : Hid (Bk wr (base + 1 + 1) 115 #[.slice none 0 0, .slice none 0 0, .slice none 0 0, .int .i64 0, .int .i64 0, .int .i64 0]) := Lib.hid (HCK.out.2.2 _ _ (show base + 1 + 1 ≠ sA from HNS.out) (by rw [HWI.out]; exact HBR.out.2))
              have HB8 : Hid (Below base w wr) := Lib.hid ((by rw [HBS.out]; exact HBR.out.1 : Below base w _).trans (by rw [← HWI.out]; exact HCK.out.2.1))
              have s0 : wr.cell? ⟨sA, 0, none⟩ = some (.slice A n c) := HCS.out.1.cell 0
              have s1 : wr.cell? ⟨sA, 1, none⟩ = some (.slice none 0 0) := HCS.out.1.cell 1
              have s2 : wr.cell? ⟨sA, 2, none⟩ = some (.slice pA pn pc) := HCS.out.1.cell 2
              have s3 : wr.cell? ⟨sA, 3, none⟩ = some (.int .i64 gx) := HCS.out.1.cell 3
              have s4 : wr.cell? ⟨sA, 4, none⟩ = some (.int .i64 gy) := HCS.out.1.cell 4
              have s5 : wr.cell? ⟨sA, 5, none⟩ = some (.int .i64 st) := HCS.out.1.cell 5
              have z0 : wr.cell? ⟨base + 1 + 1, 0, none⟩ = some (.slice none 0 0) := HR8.out.cell 0
              have y0 := HR8.out.frozen 0
              have z1 : wr.cell? ⟨base + 1 + 1, 1, none⟩ = some (.slice none 0 0) := HR8.out.cell 1
              have y1 := HR8.out.frozen 1
              have z2 : wr.cell? ⟨base + 1 + 1, 2, none⟩ = some (.slice none 0 0) := HR8.out.cell 2
              have y2 := HR8.out.frozen 2
              have z3 : wr.cell? ⟨base + 1 + 1, 3, none⟩ = some (.int .i64 0) := HR8.out.cell 3
              have y3 := HR8.out.frozen 3
              have z4 : wr.cell? ⟨base + 1 + 1, 4, none⟩ = some (.int .i64 0) := HR8.out.cell 4
              have y4 := HR8.out.frozen 4
              have z5 : wr.cell? ⟨base + 1 + 1, 5, none⟩ = some (.int .i64 0) := HR8.out.cell 5
              have y5 := HR8.out.frozen 5
              go_wp2_with fail
              (try simp only [Exit.inBlock, Exit.then])
              refine bodyPost_ret (v := .tuple #[.agg #[.slice A n c, .slice none 0 0, .slice pA pn pc, .int .i64 gx, .int .i64 gy, .int .i64 st], .slice E n ec, .int .i64 0]) ?_ rfl ?_
              · rw [results_ctt rfl]
                go_simp
              · have hk8 : Kx 0 [131, 115] wr (((((((wr.setCell ⟨base + 1 + 1, 0, none⟩ (.slice A n c)).setCell ⟨base + 1 + 1, 1, none⟩ (.slice none 0 0)).setCell ⟨base + 1 + 1, 2, none⟩ (.slice pA pn pc)).setCell ⟨base + 1 + 1, 3, none⟩ (.int .i64 gx)).setCell ⟨base + 1 + 1, 4, none⟩ (.int .i64 gy)).setCell ⟨base + 1 + 1, 5, none⟩ (.int .i64 st))) := (((((((Kx.refl (B := 0)).set HR8.out (Nat.zero_le _) (by simp) 0 _).set (HR8.out.set_ 0 (.slice A n c)) (Nat.zero_le _) (by simp) 1 _).set ((HR8.out.set_ 0 (.slice A n c)).set_ 1 (.slice none 0 0)) (Nat.zero_le _) (by simp) 2 _).set (((HR8.out.set_ 0 (.slice A n c)).set_ 1 (.slice none 0 0)).set_ 2 (.slice pA pn pc)) (Nat.zero_le _) (by simp) 3 _).set ((((HR8.out.set_ 0 (.slice A n c)).set_ 1 (.slice none 0 0)).set_ 2 (.slice pA pn pc)).set_ 3 (.int .i64 gx)) (Nat.zero_le _) (by simp) 4 _).set (((((HR8.out.set_ 0 (.slice A n c)).set_ 1 (.slice none 0 0)).set_ 2 (.slice pA pn pc)).set_ 3 (.int .i64 gx)).set_ 4 (.int .i64 gy)) (Nat.zero_le _) (by simp) 5 _)
                have hkk : Kx 0 [131, 115] wi (((((((wr.setCell ⟨base + 1 + 1, 0, none⟩ (.slice A n c)).setCell ⟨base + 1 + 1, 1, none⟩ (.slice none 0 0)).setCell ⟨base + 1 + 1, 2, none⟩ (.slice pA pn pc)).setCell ⟨base + 1 + 1, 3, none⟩ (.int .i64 gx)).setCell ⟨base + 1 + 1, 4, none⟩ (.int .i64 gy)).setCell ⟨base + 1 + 1, 5, none⟩ (.int .i64 st))) := HCK.out.1.kx.trans hk8
                have hlo : base ≤ base + 1 + 1 := by omega
                refine ⟨?_, .inr (.inr (.inr ⟨HCV.out, HMV.out, by have h1 := HBQ.out; omega, A, n, c, pA, pn, pc, E, ec, rfl, ?_, ?_, HBQ.out.2, ?_⟩))⟩
                · rw [← HBS.out]
                  have hbx := HB8.out
                  (repeat' first | with_reducible exact hbx | with_reducible refine Below.setCell ?_ hlo _)
                · rw [← HBS.out]
                  obtain ⟨l, hl, hlq⟩ := HSC.out.bm
                  rw [← HWI.out] at hl
                  exact ⟨l, hl.keep hkk (by decide) (by decide), hlq⟩
                · rw [← HBS.out]
                  have := HSC.out.en
                  rw [← HWI.out] at this
                  exact hkk.own this (by decide)
                · rw [← HBS.out, ← HFF.out]
                  have hx : Kx 0 [115] wr (((((((wr.setCell ⟨base + 1 + 1, 0, none⟩ (.slice A n c)).setCell ⟨base + 1 + 1, 1, none⟩ (.slice none 0 0)).setCell ⟨base + 1 + 1, 2, none⟩ (.slice pA pn pc)).setCell ⟨base + 1 + 1, 3, none⟩ (.int .i64 gx)).setCell ⟨base + 1 + 1, 4, none⟩ (.int .i64 gy)).setCell ⟨base + 1 + 1, 5, none⟩ (.int .i64 st))) := (((((((Kx.refl (B := 0)).set HR8.out (Nat.zero_le _) (by simp) 0 _).set (HR8.out.set_ 0 (.slice A n c)) (Nat.zero_le _) (by simp) 1 _).set ((HR8.out.set_ 0 (.slice A n c)).set_ 1 (.slice none 0 0)) (Nat.zero_le _) (by simp) 2 _).set (((HR8.out.set_ 0 (.slice A n c)).set_ 1 (.slice none 0 0)).set_ 2 (.slice pA pn pc)) (Nat.zero_le _) (by simp) 3 _).set ((((HR8.out.set_ 0 (.slice A n c)).set_ 1 (.slice none 0 0)).set_ 2 (.slice pA pn pc)).set_ 3 (.int .i64 gx)) (Nat.zero_le _) (by simp) 4 _).set (((((HR8.out.set_ 0 (.slice A n c)).set_ 1 (.slice none 0 0)).set_ 2 (.slice pA pn pc)).set_ 3 (.int .i64 gx)).set_ 4 (.int .i64 gy)) (Nat.zero_le _) (by simp) 5 _)
                  have := HCS.out.2.1
                  rw [HRD.out.2.1, List.take_length] at this
                  exact hx.own this (by decide)
    · have HMV := Lib.hid hm
      have t1 : (mv != 0) = true := by simpa using hm
      clear hm
      have z0 : W4.cell? ⟨base + 2, 0, none⟩ = some (.slice none 0 0) := HRA4.out.cell 0
      have y0 := HRA4.out.frozen 0
      have z1 : W4.cell? ⟨base + 2, 1, none⟩ = some (.slice none 0 0) := HRA4.out.cell 1
      have y1 := HRA4.out.frozen 1
      have z2 : W4.cell? ⟨base + 2, 2, none⟩ = some (.slice none 0 0) := HRA4.out.cell 2
      have y2 := HRA4.out.frozen 2
      have z3 : W4.cell? ⟨base + 2, 3, none⟩ = some (.int .i64 0) := HRA4.out.cell 3
      have y3 := HRA4.out.frozen 3
      have z4 : W4.cell? ⟨base + 2, 4, none⟩ = some (.int .i64 0) := HRA4.out.cell 4
      have y4 := HRA4.out.frozen 4
      have z5 : W4.cell? ⟨base + 2, 5, none⟩ = some (.int .i64 0) := HRA4.out.cell 5
      have y5 := HRA4.out.frozen 5
      go_wp2_with fail
      (try simp only [Exit.inBlock, Exit.then])
      refine bodyPost_ret (v := .tuple #[.agg #[.slice none 0 0, .slice none 0 0, .slice none 0 0, .int .i64 0, .int .i64 0, .int .i64 0], .slice none 0 0, .int .i64 mv]) ?_ rfl ?_
      · rw [results_ctt rfl]
        go_simp
      · refine ⟨?_, .inr (.inl ⟨HCV.out, HMV.out, rfl⟩)⟩
        have hlo : w.heap.size ≤ base + 2 := by have := HBS.out; omega
        have hbx := HB4.out
        (repeat' first | with_reducible exact hbx | with_reducible refine Below.setCell ?_ hlo _)
  · have HCV := Lib.hid hc
    have t0 : (cv != 0) = true := by simpa using hc
    clear hc
    have z0 : w2.cell? ⟨base + 2, 0, none⟩ = some (.slice none 0 0) := HRA2.out.cell 0
    have y0 := HRA2.out.frozen 0
    have z1 : w2.cell? ⟨base + 2, 1, none⟩ = some (.slice none 0 0) := HRA2.out.cell 1
    have y1 := HRA2.out.frozen 1
    have z2 : w2.cell? ⟨base + 2, 2, none⟩ = some (.slice none 0 0) := HRA2.out.cell 2
    have y2 := HRA2.out.frozen 2
    have z3 : w2.cell? ⟨base + 2, 3, none⟩ = some (.int .i64 0) := HRA2.out.cell 3
    have y3 := HRA2.out.frozen 3
    have z4 : w2.cell? ⟨base + 2, 4, none⟩ = some (.int .i64 0) := HRA2.out.cell 4
    have y4 := HRA2.out.frozen 4
    have z5 : w2.cell? ⟨base + 2, 5, none⟩ = some (.int .i64 0) := HRA2.out.cell 5
    have y5 := HRA2.out.frozen 5
    go_wp2_with fail
    (try simp only [Exit.inBlock, Exit.then])
    refine bodyPost_ret (v := .tuple #[.agg #[.slice none 0 0, .slice none 0 0, .slice none 0 0, .int .i64 0, .int .i64 0, .int .i64 0], .slice none 0 0, .int .i64 cv]) ?_ rfl ?_
    · rw [results_ctt rfl]
      go_simp
    · refine ⟨?_, .inl ⟨HCV.out, rfl⟩⟩
      have hlo : w.heap.size ≤ base + 2 := by have := HBS.out; omega
      have hbx := HB2.out
      (repeat' first | with_reducible exact hbx | with_reducible refine Below.setCell ?_ hlo _)
/-! ### Bl -/
noncomputable def soR9 : Code := (Try.f57.body.bind (rgnN 9)).getD .skip
theorem so9_fin {w0 w : World} {base sA eA n c ec gB cB gE cE g0 cc : Nat} {A E : Option Addr} {e g : Int} {q : List (Bo × (Int × Int))} {l : List Bm} {b : Bo}
    (h0 : Bk w eA 116 #[.slice E n ec]) (h1 : Bk w sA 115 #[.slice A n c, .slice none 0 0, .slice none 0 0, .int .i64 0, .int .i64 0, .int .i64 0]) (h2 : w.ownsRow base 124 13 (.slice (some ⟨gB, 0, none⟩) (n + 1) cB) (n + 1) (bmCs l ++ #[.int .i64 b.px, .int .i64 b.py, .int .i64 b.vx, .int .i64 b.vy, .int .i64 b.ang, .int .i64 b.spin, .int .i64 b.mass, .int .i64 b.inr, .int .i64 b.bou, .int .i64 b.rub, .slice (some ⟨g0, 0, none⟩) 4 cc, .bool b.asl, .int .i64 b.calm].toList)) (h3 : w.ownsRow base 128 2 (.slice (some ⟨gE, 0, none⟩) (n + 1) cE) (n + 1) (enCs (q.map Prod.snd) ++ #[.int .i64 e, .int .i64 g].toList)) (h4 : Kz [124, 128] w0 w) (h5 : Below base w0 w) (hL : ScL w0 base l q b e g g0 cc n) (hlo : base ≤ sA) (heo : base ≤ eA) :
    ScI ((w.setCell ⟨sA, 0, none⟩ (.slice (some ⟨gB, 0, none⟩) (n + 1) cB)).setCell ⟨eA, 0, none⟩ (.slice (some ⟨gE, 0, none⟩) (n + 1) cE)) base sA (some ⟨gB, 0, none⟩) (n + 1) cB (some ⟨gE, 0, none⟩) cE 0 0 0 (q ++ [(b, (e, g))]) ∧ Bk ((w.setCell ⟨sA, 0, none⟩ (.slice (some ⟨gB, 0, none⟩) (n + 1) cB)).setCell ⟨eA, 0, none⟩ (.slice (some ⟨gE, 0, none⟩) (n + 1) cE)) eA 116 #[.slice (some ⟨gE, 0, none⟩) (n + 1) cE] ∧ Kz [124, 128, 115, 116] w0 ((w.setCell ⟨sA, 0, none⟩ (.slice (some ⟨gB, 0, none⟩) (n + 1) cB)).setCell ⟨eA, 0, none⟩ (.slice (some ⟨gE, 0, none⟩) (n + 1) cE)) ∧ Below base w0 ((w.setCell ⟨sA, 0, none⟩ (.slice (some ⟨gB, 0, none⟩) (n + 1) cB)).setCell ⟨eA, 0, none⟩ (.slice (some ⟨gE, 0, none⟩) (n + 1) cE)) ∧ ∀ g cs, g ≠ sA → Bk w0 g 115 cs → Bk ((w.setCell ⟨sA, 0, none⟩ (.slice (some ⟨gB, 0, none⟩) (n + 1) cB)).setCell ⟨eA, 0, none⟩ (.slice (some ⟨gE, 0, none⟩) (n + 1) cE)) g 115 cs := by
  obtain ⟨p1, p2, p3, p4⟩ := sc18_fin (gE := gE) (cE := cE) h1 h2 h3 h4 h5 hL hlo
  have hx := h0.far (p := ⟨sA, 0, none⟩) (h0.ne_ h1 (by decide)) (.slice (some ⟨gB, 0, none⟩) (n + 1) cB)
  have hz : Kz [116] (w.setCell ⟨sA, 0, none⟩ (.slice (some ⟨gB, 0, none⟩) (n + 1) cB)) ((w.setCell ⟨sA, 0, none⟩ (.slice (some ⟨gB, 0, none⟩) (n + 1) cB)).setCell ⟨eA, 0, none⟩ (.slice (some ⟨gE, 0, none⟩) (n + 1) cE)) := Kz.refl.set hx (by simp) 0 _
  exact ⟨p1.keep hz.kx (by decide) (by decide) (by decide) (by decide), by simpa using hx.set_ 0 (.slice (some ⟨gE, 0, none⟩) (n + 1) cE), (p2.mono (by simp)).trans (hz.mono (by simp)), p3.setCell (p := ⟨eA, 0, none⟩) heo _, fun g cs hg hb => hz.kx.bk (p4 g cs hg hb) (by decide)⟩
set_option maxHeartbeats 8000000 in
theorem so9_any {x0 x1 x2 x3 x4 x5 x6 x7 x10 x13 x14 x15 x16 x17 x18 x19 x20 x21 x22 x23 x24 x25 x26 x27 x28 x29 x30 x31 x32 x33 x34 x35 x36 x37 x38 x39 x40 x41 x42 x43 x44 x45 x46 x47 x48 x49 x50 x51 x52 x53 x54 x55 x56 x57 x58 x59 x60 x61 x62 x63 x64 x65 x66 x67 x68 x69 x70 x71 x72 x73 x74 x75 x76 x77 x78 x79 x80 x81 x82 x83 x84 : Value} {Q : Exit → Act → World → Prop} {w0 : World} {base sA eA n c ec ia ba ic iN g0 cc : Nat} {A E iA : Option Addr} {e g : Int} {q : List (Bo × (Int × Int))} {b : Bo}
    (hS : ScI w0 base sA A n c E ec 0 0 0 q) (he : Bk w0 eA 116 #[.slice E n ec]) (heo : base ≤ eA) (hi : Bk w0 ia 147 #[.int .i64 e, .int .i64 g, .slice iA iN ic]) (hb : Bk w0 ba 124 #[.int .i64 b.px, .int .i64 b.py, .int .i64 b.vx, .int .i64 b.vy, .int .i64 b.ang, .int .i64 b.spin, .int .i64 b.mass, .int .i64 b.inr, .int .i64 b.bou, .int .i64 b.rub, .slice (some ⟨g0, 0, none⟩) 4 cc, .bool b.asl, .int .i64 b.calm]) (hY : BmY w0 base ⟨b, g0, cc⟩) (hq : q.length ≤ 256) (hbase : base ≤ w0.heap.size) (hne : (Value.slice A n c).ownBlock ≠ some ba)
    (hN : ∀ (y39 y40 y41 y42 y43 y44 y45 y46 y47 y48 y49 : Value) (gB cB gE cE : Nat) (w' : World), Hid (ScI w' base sA (some ⟨gB, 0, none⟩) (n + 1) cB (some ⟨gE, 0, none⟩) cE 0 0 0 (q ++ [(b, (e, g))]) ∧ Bk w' eA 116 #[.slice (some ⟨gE, 0, none⟩) (n + 1) cE] ∧ Kz [124, 128, 115, 116] w0 w' ∧ Below base w0 w' ∧ ∀ g cs, g ≠ sA → Bk w0 g 115 cs → Bk w' g 115 cs) → Q .normal ⟨#[x0, x1, x2, x3, x4, x5, x6, x7, .pointer (some ⟨sA, 0, none⟩), .pointer (some ⟨eA, 0, none⟩), x10, .pointer (some ⟨ia, 0, none⟩), .pointer (some ⟨ba, 0, none⟩), x13, x14, x15, x16, x17, x18, x19, x20, x21, x22, x23, x24, x25, x26, x27, x28, x29, x30, x31, x32, x33, x34, x35, x36, x37, x38, y39, y40, y41, y42, y43, y44, y45, y46, y47, y48, y49, x50, x51, x52, x53, x54, x55, x56, x57, x58, x59, x60, x61, x62, x63, x64, x65, x66, x67, x68, x69, x70, x71, x72, x73, x74, x75, x76, x77, x78, x79, x80, x81, x82, x83, x84], []⟩ w') :
    Code.wp Try.prog soR9 Q ⟨#[x0, x1, x2, x3, x4, x5, x6, x7, .pointer (some ⟨sA, 0, none⟩), .pointer (some ⟨eA, 0, none⟩), x10, .pointer (some ⟨ia, 0, none⟩), .pointer (some ⟨ba, 0, none⟩), x13, x14, x15, x16, x17, x18, x19, x20, x21, x22, x23, x24, x25, x26, x27, x28, x29, x30, x31, x32, x33, x34, x35, x36, x37, x38, x39, x40, x41, x42, x43, x44, x45, x46, x47, x48, x49, x50, x51, x52, x53, x54, x55, x56, x57, x58, x59, x60, x61, x62, x63, x64, x65, x66, x67, x68, x69, x70, x71, x72, x73, x74, x75, x76, x77, x78, x79, x80, x81, x82, x83, x84], []⟩ w0 := by
  conv => arg 2; whnf
  obtain ⟨iB, hiB, hB0, hB1, hB2⟩ := info_parts T.info124
  obtain ⟨iE, hiE, hE0, hE1, hE2⟩ := info_parts T.info128
  obtain ⟨l, hl, hlq⟩ := hS.bm
  have HL : Hid (ScL w0 base l q b e g g0 cc n) := Lib.hid ⟨hl.len, hl.ok, hlq, hS.len, hY⟩
  have hn256 : n ≤ 256 := by rw [hS.len]; exact hq
  have HLO : Hid (base ≤ sA) := Lib.hid hS.lo
  have HEO := Lib.hid heo
  obtain ⟨u0, hu0⟩ : ∃ z, z = w0.drew := ⟨_, rfl⟩
  have HRu0 : Hid (Bk u0 eA 116 #[.slice E n ec] ∧ Bk u0 sA 115 #[.slice A n c, .slice none 0 0, .slice none 0 0, .int .i64 0, .int .i64 0, .int .i64 0] ∧ Bk u0 ba 124 #[.int .i64 b.px, .int .i64 b.py, .int .i64 b.vx, .int .i64 b.vy, .int .i64 b.ang, .int .i64 b.spin, .int .i64 b.mass, .int .i64 b.inr, .int .i64 b.bou, .int .i64 b.rub, .slice (some ⟨g0, 0, none⟩) 4 cc, .bool b.asl, .int .i64 b.calm] ∧ Bk u0 ia 147 #[.int .i64 e, .int .i64 g, .slice iA iN ic] ∧ Kz [124, 128] w0 u0 ∧ Below base w0 u0) := Lib.hid (by rw [hu0]; exact ⟨he.drew, hS.s.drew, hb.drew, hi.drew, Kz.refl.drew, (Below.refl _ _).drew⟩)
  have HBu0 : Hid (u0.ownsRow base 124 13 (.slice A n c) n (bmCs l)) := Lib.hid (by rw [hu0]; exact (Kx.refl (B := 0) (F := [])).drew.own hl.own (by simp))
  have HEu0 : Hid (u0.ownsRow base 128 2 (.slice E n ec) n (enCs (q.map Prod.snd))) := Lib.hid (by rw [hu0]; exact (Kx.refl (B := 0) (F := [])).drew.own hS.en (by simp))
  have HS2 : Hid (∀ wz, (Bk wz eA 116 #[.slice E n ec] ∧ Bk wz sA 115 #[.slice A n c, .slice none 0 0, .slice none 0 0, .int .i64 0, .int .i64 0, .int .i64 0] ∧ Bk wz ba 124 #[.int .i64 b.px, .int .i64 b.py, .int .i64 b.vx, .int .i64 b.vy, .int .i64 b.ang, .int .i64 b.spin, .int .i64 b.mass, .int .i64 b.inr, .int .i64 b.bou, .int .i64 b.rub, .slice (some ⟨g0, 0, none⟩) 4 cc, .bool b.asl, .int .i64 b.calm] ∧ Bk wz ia 147 #[.int .i64 e, .int .i64 g, .slice iA iN ic] ∧ Kz [124, 128] w0 wz ∧ Below base w0 wz) → wz.cell? ⟨ba, 0, none⟩ = some (.int .i64 b.px) ∧ wz.cell? ⟨ba, 1, none⟩ = some (.int .i64 b.py) ∧ wz.cell? ⟨ba, 2, none⟩ = some (.int .i64 b.vx) ∧ wz.cell? ⟨ba, 3, none⟩ = some (.int .i64 b.vy) ∧ wz.cell? ⟨ba, 4, none⟩ = some (.int .i64 b.ang) ∧ wz.cell? ⟨ba, 5, none⟩ = some (.int .i64 b.spin) ∧ wz.cell? ⟨ba, 6, none⟩ = some (.int .i64 b.mass) ∧ wz.cell? ⟨ba, 7, none⟩ = some (.int .i64 b.inr) ∧ wz.cell? ⟨ba, 8, none⟩ = some (.int .i64 b.bou) ∧ wz.cell? ⟨ba, 9, none⟩ = some (.int .i64 b.rub) ∧ wz.cell? ⟨ba, 10, none⟩ = some (.slice (some ⟨g0, 0, none⟩) 4 cc) ∧ wz.cell? ⟨ba, 11, none⟩ = some (.bool b.asl) ∧ wz.cell? ⟨ba, 12, none⟩ = some (.int .i64 b.calm) ∧ wz.cell? ⟨ia, 0, none⟩ = some (.int .i64 e) ∧ wz.cell? ⟨ia, 1, none⟩ = some (.int .i64 g) ∧ wz.cell? ⟨sA, 0, none⟩ = some (.slice A n c) ∧ wz.cell? ⟨eA, 0, none⟩ = some (.slice E n ec)) := Lib.hid fun wz h => ⟨h.2.2.1.cell 0, h.2.2.1.cell 1, h.2.2.1.cell 2, h.2.2.1.cell 3, h.2.2.1.cell 4, h.2.2.1.cell 5, h.2.2.1.cell 6, h.2.2.1.cell 7, h.2.2.1.cell 8, h.2.2.1.cell 9, h.2.2.1.cell 10, h.2.2.1.cell 11, h.2.2.1.cell 12, h.2.2.2.1.cell 0, h.2.2.2.1.cell 1, h.2.1.cell 0, h.1.cell 0⟩
  clear hS hi hb hY hl hlq hq he heo
  refine wp_region_noPanic ?_
  refine wp_region_L (S := fun wz => wz.cell? ⟨ba, 0, none⟩ = some (.int .i64 b.px) ∧ wz.cell? ⟨ba, 1, none⟩ = some (.int .i64 b.py) ∧ wz.cell? ⟨ba, 2, none⟩ = some (.int .i64 b.vx) ∧ wz.cell? ⟨ba, 3, none⟩ = some (.int .i64 b.vy) ∧ wz.cell? ⟨ba, 4, none⟩ = some (.int .i64 b.ang) ∧ wz.cell? ⟨ba, 5, none⟩ = some (.int .i64 b.spin) ∧ wz.cell? ⟨ba, 6, none⟩ = some (.int .i64 b.mass) ∧ wz.cell? ⟨ba, 7, none⟩ = some (.int .i64 b.inr) ∧ wz.cell? ⟨ba, 8, none⟩ = some (.int .i64 b.bou) ∧ wz.cell? ⟨ba, 9, none⟩ = some (.int .i64 b.rub) ∧ wz.cell? ⟨ba, 10, none⟩ = some (.slice (some ⟨g0, 0, none⟩) 4 cc) ∧ wz.cell? ⟨ba, 11, none⟩ = some (.bool b.asl) ∧ wz.cell? ⟨ba, 12, none⟩ = some (.int .i64 b.calm) ∧ wz.cell? ⟨ia, 0, none⟩ = some (.int .i64 e) ∧ wz.cell? ⟨ia, 1, none⟩ = some (.int .i64 g) ∧ wz.cell? ⟨sA, 0, none⟩ = some (.slice A n c) ∧ wz.cell? ⟨eA, 0, none⟩ = some (.slice E n ec)) (late := [11, 12]) (by kernel_rfl) ?_
  rw [← hu0]
  clear hu0
  refine wpAnyL_val (i := 0) (v := .pointer (some ⟨sA, 0, none⟩)) (d := some 39) rfl rfl (by kernel_rfl) (by kernel_rfl) (by kernel_rfl) (by kernel_rfl) (fun _ _ _ h => h) (Or.inl ⟨by rfl, fun w hS => by (obtain ⟨h0, h1, h2, h3, h4, h5, h6, h7, h8, h9, h10, h11, h12, h13, h14, h15, h16⟩ := hS; go_simp)⟩) (HS2.out _ HRu0.out) ?_
  (try simp only [Act.put, List.setIfInBounds_toArray, List.set_cons_zero, List.set_cons_succ])
  refine wpAnyL_val (i := 1) (v := .slice A n c) (d := some 40) rfl rfl (by kernel_rfl) (by kernel_rfl) (by kernel_rfl) (by kernel_rfl) (fun _ _ _ h => h) (Or.inl ⟨by rfl, fun w hS => by (obtain ⟨h0, h1, h2, h3, h4, h5, h6, h7, h8, h9, h10, h11, h12, h13, h14, h15, h16⟩ := hS; go_simp)⟩) (HS2.out _ HRu0.out) ?_
  (try simp only [Act.put, List.setIfInBounds_toArray, List.set_cons_zero, List.set_cons_succ])
  refine wpAnyL_val (i := 2) (v := .agg #[.int .i64 b.px, .int .i64 b.py, .int .i64 b.vx, .int .i64 b.vy, .int .i64 b.ang, .int .i64 b.spin, .int .i64 b.mass, .int .i64 b.inr, .int .i64 b.bou, .int .i64 b.rub, .slice (some ⟨g0, 0, none⟩) 4 cc, .bool b.asl, .int .i64 b.calm]) (d := some 41) rfl rfl (by kernel_rfl) (by kernel_rfl) (by kernel_rfl) (by kernel_rfl) (fun _ _ _ h => h) (Or.inl ⟨by rfl, fun w hS => by (obtain ⟨h0, h1, h2, h3, h4, h5, h6, h7, h8, h9, h10, h11, h12, h13, h14, h15, h16⟩ := hS; go_simp)⟩) (HS2.out _ HRu0.out) ?_
  (try simp only [Act.put, List.setIfInBounds_toArray, List.set_cons_zero, List.set_cons_succ])
  refine wpAnyL_val (i := 5) (v := .slice E n ec) (d := some 44) rfl rfl (by kernel_rfl) (by kernel_rfl) (by kernel_rfl) (by kernel_rfl) (fun _ _ _ h => h) (Or.inl ⟨by rfl, fun w hS => by (obtain ⟨h0, h1, h2, h3, h4, h5, h6, h7, h8, h9, h10, h11, h12, h13, h14, h15, h16⟩ := hS; go_simp)⟩) (HS2.out _ HRu0.out) ?_
  (try simp only [Act.put, List.setIfInBounds_toArray, List.set_cons_zero, List.set_cons_succ])
  refine wpAnyL_val (i := 6) (v := .pointer (some ⟨ia, 0, none⟩)) (d := some 45) rfl rfl (by kernel_rfl) (by kernel_rfl) (by kernel_rfl) (by kernel_rfl) (fun _ _ _ h => h) (Or.inl ⟨by rfl, fun w hS => by (obtain ⟨h0, h1, h2, h3, h4, h5, h6, h7, h8, h9, h10, h11, h12, h13, h14, h15, h16⟩ := hS; go_simp)⟩) (HS2.out _ HRu0.out) ?_
  (try simp only [Act.put, List.setIfInBounds_toArray, List.set_cons_zero, List.set_cons_succ])
  refine wpAnyL_val (i := 7) (v := .agg #[.int .i64 e, .int .i64 g]) (d := some 46) rfl rfl (by kernel_rfl) (by kernel_rfl) (by kernel_rfl) (by kernel_rfl) (fun _ _ _ h => h) (Or.inl ⟨by rfl, fun w hS => by (obtain ⟨h0, h1, h2, h3, h4, h5, h6, h7, h8, h9, h10, h11, h12, h13, h14, h15, h16⟩ := hS; go_simp)⟩) (HS2.out _ HRu0.out) ?_
  (try simp only [Act.put, List.setIfInBounds_toArray, List.set_cons_zero, List.set_cons_succ])
  refine wpAnyL_two (i := 3) (j := 8) rfl rfl (by kernel_rfl) (by rfl) (by rfl) ?_ ?_
  · go_simp
    obtain ⟨nb, hnb⟩ : ∃ z, z = u0.heap.size := ⟨_, rfl⟩
    obtain ⟨v0, hv0⟩ : ∃ z, z = u0.alloc (.cells #[.int .i64 b.px, .int .i64 b.py, .int .i64 b.vx, .int .i64 b.vy, .int .i64 b.ang, .int .i64 b.spin, .int .i64 b.mass, .int .i64 b.inr, .int .i64 b.bou, .int .i64 b.rub, .slice (some ⟨g0, 0, none⟩) 4 cc, .bool b.asl, .int .i64 b.calm] 124) := ⟨_, rfl⟩
    have HRv0 : Hid (Bk v0 eA 116 #[.slice E n ec] ∧ Bk v0 sA 115 #[.slice A n c, .slice none 0 0, .slice none 0 0, .int .i64 0, .int .i64 0, .int .i64 0] ∧ Bk v0 ba 124 #[.int .i64 b.px, .int .i64 b.py, .int .i64 b.vx, .int .i64 b.vy, .int .i64 b.ang, .int .i64 b.spin, .int .i64 b.mass, .int .i64 b.inr, .int .i64 b.bou, .int .i64 b.rub, .slice (some ⟨g0, 0, none⟩) 4 cc, .bool b.asl, .int .i64 b.calm] ∧ Bk v0 ia 147 #[.int .i64 e, .int .i64 g, .slice iA iN ic] ∧ Kz [124, 128] w0 v0 ∧ Below base w0 v0) := Lib.hid (by rw [hv0]; obtain ⟨r0, r1, r2, r3, r4, r5⟩ := HRu0.out; exact ⟨r0.alloc _, r1.alloc _, r2.alloc _, r3.alloc _, r4.alloc _, r5.alloc (Nat.le_trans hbase r5.size) _⟩)
    have HBv0 : Hid (v0.ownsRow base 124 13 (.slice A n c) n (bmCs l)) := Lib.hid (by rw [hv0]; exact HBu0.out.alloc _)
    have HEv0 : Hid (v0.ownsRow base 128 2 (.slice E n ec) n (enCs (q.map Prod.snd))) := Lib.hid (by rw [hv0]; exact HEu0.out.alloc _)
    have Hnbv0 : Hid (Bk v0 nb 124 #[.int .i64 b.px, .int .i64 b.py, .int .i64 b.vx, .int .i64 b.vy, .int .i64 b.ang, .int .i64 b.spin, .int .i64 b.mass, .int .i64 b.inr, .int .i64 b.bou, .int .i64 b.rub, .slice (some ⟨g0, 0, none⟩) 4 cc, .bool b.asl, .int .i64 b.calm]) := Lib.hid (by rw [hv0, hnb]; exact Bk.new _ _ _)
    rw [← hv0, ← hnb]
    clear hv0 hnb
    refine And.intro (HS2.out _ HRv0.out) ?_
    (try simp only [Act.put, List.setIfInBounds_toArray, List.set_cons_zero, List.set_cons_succ])
    refine wpAnyL_two (i := 4) (j := 8) rfl rfl (by kernel_rfl) (by rfl) (by rfl) ?_ ?_
    · refine wp_append_one (.tmp 40) (.tmp 42) 112 rfl base 124 iB (.agg #[.int .i64 0, .int .i64 0, .int .i64 0, .int .i64 0, .int .i64 0, .int .i64 0, .int .i64 0, .int .i64 0, .int .i64 0, .int .i64 0, .slice none 0 0, .bool false, .int .i64 0]) 13 120 Try.underlying112 hiB hB0 hB1 hB2 rfl (by decide) (.slice A n c) n (bmCs l) rfl HBv0.out nb 1 124 #[.int .i64 b.px, .int .i64 b.py, .int .i64 b.vx, .int .i64 b.vy, .int .i64 b.ang, .int .i64 b.spin, .int .i64 b.mass, .int .i64 b.inr, .int .i64 b.bou, .int .i64 b.rub, .slice (some ⟨g0, 0, none⟩) 4 cc, .bool b.asl, .int .i64 b.calm] rfl Hnbv0.out rfl (by simp [Value.oneCell']) (n + 1) rfl (by unfold maxLen; omega) (by omega) (Nat.le_trans hbase HRv0.out.2.2.2.2.2.size) ?_
      intro gB cB v1 hown hgr hat
      have HRv1 : Hid (Bk v1 eA 116 #[.slice E n ec] ∧ Bk v1 sA 115 #[.slice A n c, .slice none 0 0, .slice none 0 0, .int .i64 0, .int .i64 0, .int .i64 0] ∧ Bk v1 ba 124 #[.int .i64 b.px, .int .i64 b.py, .int .i64 b.vx, .int .i64 b.vy, .int .i64 b.ang, .int .i64 b.spin, .int .i64 b.mass, .int .i64 b.inr, .int .i64 b.bou, .int .i64 b.rub, .slice (some ⟨g0, 0, none⟩) 4 cc, .bool b.asl, .int .i64 b.calm] ∧ Bk v1 ia 147 #[.int .i64 e, .int .i64 g, .slice iA iN ic] ∧ Kz [124, 128] w0 v1 ∧ Below base w0 v1) := Lib.hid (by obtain ⟨r0, r1, r2, r3, r4, r5⟩ := HRv0.out; exact ⟨r0.grown hgr (fun e => own_ne HBv0.out r0 (by decide) e.symm), r1.grown hgr (fun e => own_ne HBv0.out r1 (by decide) e.symm), r2.grown hgr (fun e => hne e.symm), r3.grown hgr (fun e => own_ne HBv0.out r3 (by decide) e.symm), r4.grown HBv0.out hgr (by simp), r5.trans (grown_below HBv0.out hgr (Nat.le_trans hbase r5.size))⟩)
      have HBv1 : Hid (v1.ownsRow base 124 13 (.slice (some ⟨gB, 0, none⟩) (n + 1) cB) (n + 1) (bmCs l ++ #[.int .i64 b.px, .int .i64 b.py, .int .i64 b.vx, .int .i64 b.vy, .int .i64 b.ang, .int .i64 b.spin, .int .i64 b.mass, .int .i64 b.inr, .int .i64 b.bou, .int .i64 b.rub, .slice (some ⟨g0, 0, none⟩) 4 cc, .bool b.asl, .int .i64 b.calm].toList)) := Lib.hid hown
      have HEv1 : Hid (v1.ownsRow base 128 2 (.slice E n ec) n (enCs (q.map Prod.snd))) := Lib.hid (((Kx.refl (B := 0) (F := [124])).grown HBv0.out hgr (Nat.zero_le _) (by simp)).own HEv0.out (by decide))
      clear hown hgr hat
      refine And.intro (HS2.out _ HRv1.out) ?_
      (try simp only [Act.put, List.setIfInBounds_toArray])
      refine wpAnyL_val (i := 10) (v := .pointer (some ⟨sA, 0, none⟩)) (d := some 49) rfl rfl (by kernel_rfl) (by kernel_rfl) (by kernel_rfl) (by kernel_rfl) (fun _ _ _ h => h) (Or.inl ⟨by rfl, fun w hS => by (obtain ⟨h0, h1, h2, h3, h4, h5, h6, h7, h8, h9, h10, h11, h12, h13, h14, h15, h16⟩ := hS; go_simp)⟩) (HS2.out _ HRv1.out) ?_
      (try simp only [Act.put])
      refine wpAnyL_one (i := 8) rfl (by kernel_rfl) (by rfl) ?_
      go_simp
      obtain ⟨ne, hne⟩ : ∃ z, z = v1.heap.size := ⟨_, rfl⟩
      obtain ⟨v2, hv2⟩ : ∃ z, z = v1.alloc (.cells #[.int .i64 e, .int .i64 g] 128) := ⟨_, rfl⟩
      have HRv2 : Hid (Bk v2 eA 116 #[.slice E n ec] ∧ Bk v2 sA 115 #[.slice A n c, .slice none 0 0, .slice none 0 0, .int .i64 0, .int .i64 0, .int .i64 0] ∧ Bk v2 ba 124 #[.int .i64 b.px, .int .i64 b.py, .int .i64 b.vx, .int .i64 b.vy, .int .i64 b.ang, .int .i64 b.spin, .int .i64 b.mass, .int .i64 b.inr, .int .i64 b.bou, .int .i64 b.rub, .slice (some ⟨g0, 0, none⟩) 4 cc, .bool b.asl, .int .i64 b.calm] ∧ Bk v2 ia 147 #[.int .i64 e, .int .i64 g, .slice iA iN ic] ∧ Kz [124, 128] w0 v2 ∧ Below base w0 v2) := Lib.hid (by rw [hv2]; obtain ⟨r0, r1, r2, r3, r4, r5⟩ := HRv1.out; exact ⟨r0.alloc _, r1.alloc _, r2.alloc _, r3.alloc _, r4.alloc _, r5.alloc (Nat.le_trans hbase r5.size) _⟩)
      have HBv2 : Hid (v2.ownsRow base 124 13 (.slice (some ⟨gB, 0, none⟩) (n + 1) cB) (n + 1) (bmCs l ++ #[.int .i64 b.px, .int .i64 b.py, .int .i64 b.vx, .int .i64 b.vy, .int .i64 b.ang, .int .i64 b.spin, .int .i64 b.mass, .int .i64 b.inr, .int .i64 b.bou, .int .i64 b.rub, .slice (some ⟨g0, 0, none⟩) 4 cc, .bool b.asl, .int .i64 b.calm].toList)) := Lib.hid (by rw [hv2]; exact HBv1.out.alloc _)
      have HEv2 : Hid (v2.ownsRow base 128 2 (.slice E n ec) n (enCs (q.map Prod.snd))) := Lib.hid (by rw [hv2]; exact HEv1.out.alloc _)
      have Hnev2 : Hid (Bk v2 ne 128 #[.int .i64 e, .int .i64 g]) := Lib.hid (by rw [hv2, hne]; exact Bk.new _ _ _)
      rw [← hv2, ← hne]
      clear hv2 hne
      refine And.intro (HS2.out _ HRv2.out) ?_
      (try simp only [Act.put, List.setIfInBounds_toArray, List.set_cons_zero, List.set_cons_succ])
      refine wpAnyL_one (i := 9) rfl (by kernel_rfl) (by rfl) ?_
      refine wp_append_one (.tmp 44) (.tmp 47) 116 rfl base 128 iE (.agg #[.int .i64 0, .int .i64 0]) 2 16 Try.underlying116 hiE hE0 hE1 hE2 rfl (by decide) (.slice E n ec) n (enCs (q.map Prod.snd)) rfl HEv2.out ne 1 128 #[.int .i64 e, .int .i64 g] rfl Hnev2.out rfl (by simp [Value.oneCell']) (n + 1) rfl (by unfold maxLen; omega) (by omega) (Nat.le_trans hbase HRv2.out.2.2.2.2.2.size) ?_
      intro gE cE v3 hown hgr hat
      have HRv3 : Hid (Bk v3 eA 116 #[.slice E n ec] ∧ Bk v3 sA 115 #[.slice A n c, .slice none 0 0, .slice none 0 0, .int .i64 0, .int .i64 0, .int .i64 0] ∧ Bk v3 ba 124 #[.int .i64 b.px, .int .i64 b.py, .int .i64 b.vx, .int .i64 b.vy, .int .i64 b.ang, .int .i64 b.spin, .int .i64 b.mass, .int .i64 b.inr, .int .i64 b.bou, .int .i64 b.rub, .slice (some ⟨g0, 0, none⟩) 4 cc, .bool b.asl, .int .i64 b.calm] ∧ Bk v3 ia 147 #[.int .i64 e, .int .i64 g, .slice iA iN ic] ∧ Kz [124, 128] w0 v3 ∧ Below base w0 v3) := Lib.hid (by obtain ⟨r0, r1, r2, r3, r4, r5⟩ := HRv2.out; exact ⟨r0.grown hgr (fun e => own_ne HEv2.out r0 (by decide) e.symm), r1.grown hgr (fun e => own_ne HEv2.out r1 (by decide) e.symm), r2.grown hgr (fun e => own_ne HEv2.out r2 (by decide) e.symm), r3.grown hgr (fun e => own_ne HEv2.out r3 (by decide) e.symm), r4.grown HEv2.out hgr (by simp), r5.trans (grown_below HEv2.out hgr (Nat.le_trans hbase r5.size))⟩)
      have HEv3 : Hid (v3.ownsRow base 128 2 (.slice (some ⟨gE, 0, none⟩) (n + 1) cE) (n + 1) (enCs (q.map Prod.snd) ++ #[.int .i64 e, .int .i64 g].toList)) := Lib.hid hown
      have HBv3 : Hid (v3.ownsRow base 124 13 (.slice (some ⟨gB, 0, none⟩) (n + 1) cB) (n + 1) (bmCs l ++ #[.int .i64 b.px, .int .i64 b.py, .int .i64 b.vx, .int .i64 b.vy, .int .i64 b.ang, .int .i64 b.spin, .int .i64 b.mass, .int .i64 b.inr, .int .i64 b.bou, .int .i64 b.rub, .slice (some ⟨g0, 0, none⟩) 4 cc, .bool b.asl, .int .i64 b.calm].toList)) := Lib.hid (((Kx.refl (B := 0) (F := [128])).grown HEv2.out hgr (Nat.zero_le _) (by simp)).own HBv2.out (by decide))
      clear hown hgr hat
      refine And.intro (HS2.out _ HRv3.out) ?_
      (try simp only [Act.put, List.setIfInBounds_toArray])
      have q0 : v3.cell? ⟨sA, 0, none⟩ = some (.slice A n c) := HRv3.out.2.1.cell 0
      have f0 : v3.frozen? ⟨sA, 0, none⟩ = false := HRv3.out.2.1.frozen 0
      refine wpAnyL_late (i := 11) rfl (by kernel_rfl) (by rfl) (by kernel_rfl) ?_
      go_simp
      (try simp only [Act.put, List.setIfInBounds_toArray, List.set_cons_zero, List.set_cons_succ])
      have HX : Hid (Bk (v3.setCell ⟨sA, 0, none⟩ (.slice (some ⟨gB, 0, none⟩) (n + 1) cB)) eA 116 #[.slice E n ec]) := Lib.hid (HRv3.out.1.far (p := ⟨sA, 0, none⟩) (HRv3.out.1.ne_ HRv3.out.2.1 (by decide)) _)
      have e0 : v3.cell? ⟨eA, 0, none⟩ = some (.slice E n ec) := HRv3.out.1.cell 0
      have e1 : v3.frozen? ⟨eA, 0, none⟩ = false := HRv3.out.1.frozen 0
      have e2 : (v3.setCell ⟨sA, 0, none⟩ (.slice (some ⟨gB, 0, none⟩) (n + 1) cB)).cell? ⟨eA, 0, none⟩ = some (.slice E n ec) := HX.out.cell 0
      have e3 : (v3.setCell ⟨sA, 0, none⟩ (.slice (some ⟨gB, 0, none⟩) (n + 1) cB)).frozen? ⟨eA, 0, none⟩ = false := HX.out.frozen 0
      refine wpAnyL_late (i := 12) rfl (by kernel_rfl) (by rfl) (by kernel_rfl) ?_
      go_simp
      (try simp only [Act.put, List.setIfInBounds_toArray, List.set_cons_zero, List.set_cons_succ])
      clear e0 e1 e2 e3 q0 f0 HX
      refine wpAnyL_done (by kernel_rfl) ?_ _
      refine NoPanic.normal ?_
      have HF := Lib.hid (so9_fin HRv3.out.1 HRv3.out.2.1 HBv3.out HEv3.out HRv3.out.2.2.2.2.1 HRv3.out.2.2.2.2.2 HL.out HLO.out HEO.out)
      exact hN _ _ _ _ _ _ _ _ _ _ _ _ _ _ _ _ HF
    · go_simp
      obtain ⟨ne, hne⟩ : ∃ z, z = v0.heap.size := ⟨_, rfl⟩
      obtain ⟨v1, hv1⟩ : ∃ z, z = v0.alloc (.cells #[.int .i64 e, .int .i64 g] 128) := ⟨_, rfl⟩
      have HRv1 : Hid (Bk v1 eA 116 #[.slice E n ec] ∧ Bk v1 sA 115 #[.slice A n c, .slice none 0 0, .slice none 0 0, .int .i64 0, .int .i64 0, .int .i64 0] ∧ Bk v1 ba 124 #[.int .i64 b.px, .int .i64 b.py, .int .i64 b.vx, .int .i64 b.vy, .int .i64 b.ang, .int .i64 b.spin, .int .i64 b.mass, .int .i64 b.inr, .int .i64 b.bou, .int .i64 b.rub, .slice (some ⟨g0, 0, none⟩) 4 cc, .bool b.asl, .int .i64 b.calm] ∧ Bk v1 ia 147 #[.int .i64 e, .int .i64 g, .slice iA iN ic] ∧ Kz [124, 128] w0 v1 ∧ Below base w0 v1) := Lib.hid (by rw [hv1]; obtain ⟨r0, r1, r2, r3, r4, r5⟩ := HRv0.out; exact ⟨r0.alloc _, r1.alloc _, r2.alloc _, r3.alloc _, r4.alloc _, r5.alloc (Nat.le_trans hbase r5.size) _⟩)
      have HBv1 : Hid (v1.ownsRow base 124 13 (.slice A n c) n (bmCs l)) := Lib.hid (by rw [hv1]; exact HBv0.out.alloc _)
      have HEv1 : Hid (v1.ownsRow base 128 2 (.slice E n ec) n (enCs (q.map Prod.snd))) := Lib.hid (by rw [hv1]; exact HEv0.out.alloc _)
      have Hnev1 : Hid (Bk v1 ne 128 #[.int .i64 e, .int .i64 g]) := Lib.hid (by rw [hv1, hne]; exact Bk.new _ _ _)
      have Hnbv1 : Hid (Bk v1 nb 124 #[.int .i64 b.px, .int .i64 b.py, .int .i64 b.vx, .int .i64 b.vy, .int .i64 b.ang, .int .i64 b.spin, .int .i64 b.mass, .int .i64 b.inr, .int .i64 b.bou, .int .i64 b.rub, .slice (some ⟨g0, 0, none⟩) 4 cc, .bool b.asl, .int .i64 b.calm]) := Lib.hid (by rw [hv1]; exact Hnbv0.out.alloc _)
      rw [← hv1, ← hne]
      clear hv1 hne
      refine And.intro (HS2.out _ HRv1.out) ?_
      (try simp only [Act.put, List.setIfInBounds_toArray, List.set_cons_zero, List.set_cons_succ])
      refine wpAnyL_one (i := 4) rfl (by kernel_rfl) (by rfl) ?_
      refine wp_append_one (.tmp 40) (.tmp 42) 112 rfl base 124 iB (.agg #[.int .i64 0, .int .i64 0, .int .i64 0, .int .i64 0, .int .i64 0, .int .i64 0, .int .i64 0, .int .i64 0, .int .i64 0, .int .i64 0, .slice none 0 0, .bool false, .int .i64 0]) 13 120 Try.underlying112 hiB hB0 hB1 hB2 rfl (by decide) (.slice A n c) n (bmCs l) rfl HBv1.out nb 1 124 #[.int .i64 b.px, .int .i64 b.py, .int .i64 b.vx, .int .i64 b.vy, .int .i64 b.ang, .int .i64 b.spin, .int .i64 b.mass, .int .i64 b.inr, .int .i64 b.bou, .int .i64 b.rub, .slice (some ⟨g0, 0, none⟩) 4 cc, .bool b.asl, .int .i64 b.calm] rfl Hnbv1.out rfl (by simp [Value.oneCell']) (n + 1) rfl (by unfold maxLen; omega) (by omega) (Nat.le_trans hbase HRv1.out.2.2.2.2.2.size) ?_
      intro gB cB v2 hown hgr hat
      have HRv2 : Hid (Bk v2 eA 116 #[.slice E n ec] ∧ Bk v2 sA 115 #[.slice A n c, .slice none 0 0, .slice none 0 0, .int .i64 0, .int .i64 0, .int .i64 0] ∧ Bk v2 ba 124 #[.int .i64 b.px, .int .i64 b.py, .int .i64 b.vx, .int .i64 b.vy, .int .i64 b.ang, .int .i64 b.spin, .int .i64 b.mass, .int .i64 b.inr, .int .i64 b.bou, .int .i64 b.rub, .slice (some ⟨g0, 0, none⟩) 4 cc, .bool b.asl, .int .i64 b.calm] ∧ Bk v2 ia 147 #[.int .i64 e, .int .i64 g, .slice iA iN ic] ∧ Kz [124, 128] w0 v2 ∧ Below base w0 v2) := Lib.hid (by obtain ⟨r0, r1, r2, r3, r4, r5⟩ := HRv1.out; exact ⟨r0.grown hgr (fun e => own_ne HBv1.out r0 (by decide) e.symm), r1.grown hgr (fun e => own_ne HBv1.out r1 (by decide) e.symm), r2.grown hgr (fun e => hne e.symm), r3.grown hgr (fun e => own_ne HBv1.out r3 (by decide) e.symm), r4.grown HBv1.out hgr (by simp), r5.trans (grown_below HBv1.out hgr (Nat.le_trans hbase r5.size))⟩)
      have HBv2 : Hid (v2.ownsRow base 124 13 (.slice (some ⟨gB, 0, none⟩) (n + 1) cB) (n + 1) (bmCs l ++ #[.int .i64 b.px, .int .i64 b.py, .int .i64 b.vx, .int .i64 b.vy, .int .i64 b.ang, .int .i64 b.spin, .int .i64 b.mass, .int .i64 b.inr, .int .i64 b.bou, .int .i64 b.rub, .slice (some ⟨g0, 0, none⟩) 4 cc, .bool b.asl, .int .i64 b.calm].toList)) := Lib.hid hown
      have HEv2 : Hid (v2.ownsRow base 128 2 (.slice E n ec) n (enCs (q.map Prod.snd))) := Lib.hid (((Kx.refl (B := 0) (F := [124])).grown HBv1.out hgr (Nat.zero_le _) (by simp)).own HEv1.out (by decide))
      have Hnev2 : Hid (Bk v2 ne 128 #[.int .i64 e, .int .i64 g]) := Lib.hid (Hnev1.out.grown hgr (fun e => own_ne HBv1.out Hnev1.out (by decide) e.symm))
      clear hown hgr hat
      refine And.intro (HS2.out _ HRv2.out) ?_
      (try simp only [Act.put, List.setIfInBounds_toArray])
      refine wpAnyL_val (i := 10) (v := .pointer (some ⟨sA, 0, none⟩)) (d := some 49) rfl rfl (by kernel_rfl) (by kernel_rfl) (by kernel_rfl) (by kernel_rfl) (fun _ _ _ h => h) (Or.inl ⟨by rfl, fun w hS => by (obtain ⟨h0, h1, h2, h3, h4, h5, h6, h7, h8, h9, h10, h11, h12, h13, h14, h15, h16⟩ := hS; go_simp)⟩) (HS2.out _ HRv2.out) ?_
      (try simp only [Act.put])
      refine wpAnyL_one (i := 9) rfl (by kernel_rfl) (by rfl) ?_
      refine wp_append_one (.tmp 44) (.tmp 47) 116 rfl base 128 iE (.agg #[.int .i64 0, .int .i64 0]) 2 16 Try.underlying116 hiE hE0 hE1 hE2 rfl (by decide) (.slice E n ec) n (enCs (q.map Prod.snd)) rfl HEv2.out ne 1 128 #[.int .i64 e, .int .i64 g] rfl Hnev2.out rfl (by simp [Value.oneCell']) (n + 1) rfl (by unfold maxLen; omega) (by omega) (Nat.le_trans hbase HRv2.out.2.2.2.2.2.size) ?_
      intro gE cE v3 hown hgr hat
      have HRv3 : Hid (Bk v3 eA 116 #[.slice E n ec] ∧ Bk v3 sA 115 #[.slice A n c, .slice none 0 0, .slice none 0 0, .int .i64 0, .int .i64 0, .int .i64 0] ∧ Bk v3 ba 124 #[.int .i64 b.px, .int .i64 b.py, .int .i64 b.vx, .int .i64 b.vy, .int .i64 b.ang, .int .i64 b.spin, .int .i64 b.mass, .int .i64 b.inr, .int .i64 b.bou, .int .i64 b.rub, .slice (some ⟨g0, 0, none⟩) 4 cc, .bool b.asl, .int .i64 b.calm] ∧ Bk v3 ia 147 #[.int .i64 e, .int .i64 g, .slice iA iN ic] ∧ Kz [124, 128] w0 v3 ∧ Below base w0 v3) := Lib.hid (by obtain ⟨r0, r1, r2, r3, r4, r5⟩ := HRv2.out; exact ⟨r0.grown hgr (fun e => own_ne HEv2.out r0 (by decide) e.symm), r1.grown hgr (fun e => own_ne HEv2.out r1 (by decide) e.symm), r2.grown hgr (fun e => own_ne HEv2.out r2 (by decide) e.symm), r3.grown hgr (fun e => own_ne HEv2.out r3 (by decide) e.symm), r4.grown HEv2.out hgr (by simp), r5.trans (grown_below HEv2.out hgr (Nat.le_trans hbase r5.size))⟩)
      have HEv3 : Hid (v3.ownsRow base 128 2 (.slice (some ⟨gE, 0, none⟩) (n + 1) cE) (n + 1) (enCs (q.map Prod.snd) ++ #[.int .i64 e, .int .i64 g].toList)) := Lib.hid hown
      have HBv3 : Hid (v3.ownsRow base 124 13 (.slice (some ⟨gB, 0, none⟩) (n + 1) cB) (n + 1) (bmCs l ++ #[.int .i64 b.px, .int .i64 b.py, .int .i64 b.vx, .int .i64 b.vy, .int .i64 b.ang, .int .i64 b.spin, .int .i64 b.mass, .int .i64 b.inr, .int .i64 b.bou, .int .i64 b.rub, .slice (some ⟨g0, 0, none⟩) 4 cc, .bool b.asl, .int .i64 b.calm].toList)) := Lib.hid (((Kx.refl (B := 0) (F := [128])).grown HEv2.out hgr (Nat.zero_le _) (by simp)).own HBv2.out (by decide))
      clear hown hgr hat
      refine And.intro (HS2.out _ HRv3.out) ?_
      (try simp only [Act.put])
      have q0 : v3.cell? ⟨sA, 0, none⟩ = some (.slice A n c) := HRv3.out.2.1.cell 0
      have f0 : v3.frozen? ⟨sA, 0, none⟩ = false := HRv3.out.2.1.frozen 0
      refine wpAnyL_late (i := 11) rfl (by kernel_rfl) (by rfl) (by kernel_rfl) ?_
      go_simp
      (try simp only [Act.put, List.setIfInBounds_toArray, List.set_cons_zero, List.set_cons_succ])
      have HX : Hid (Bk (v3.setCell ⟨sA, 0, none⟩ (.slice (some ⟨gB, 0, none⟩) (n + 1) cB)) eA 116 #[.slice E n ec]) := Lib.hid (HRv3.out.1.far (p := ⟨sA, 0, none⟩) (HRv3.out.1.ne_ HRv3.out.2.1 (by decide)) _)
      have e0 : v3.cell? ⟨eA, 0, none⟩ = some (.slice E n ec) := HRv3.out.1.cell 0
      have e1 : v3.frozen? ⟨eA, 0, none⟩ = false := HRv3.out.1.frozen 0
      have e2 : (v3.setCell ⟨sA, 0, none⟩ (.slice (some ⟨gB, 0, none⟩) (n + 1) cB)).cell? ⟨eA, 0, none⟩ = some (.slice E n ec) := HX.out.cell 0
      have e3 : (v3.setCell ⟨sA, 0, none⟩ (.slice (some ⟨gB, 0, none⟩) (n + 1) cB)).frozen? ⟨eA, 0, none⟩ = false := HX.out.frozen 0
      refine wpAnyL_late (i := 12) rfl (by kernel_rfl) (by rfl) (by kernel_rfl) ?_
      go_simp
      (try simp only [Act.put, List.setIfInBounds_toArray, List.set_cons_zero, List.set_cons_succ])
      clear e0 e1 e2 e3 q0 f0 HX
      refine wpAnyL_done (by kernel_rfl) ?_ _
      refine NoPanic.normal ?_
      have HF := Lib.hid (so9_fin HRv3.out.1 HRv3.out.2.1 HBv3.out HEv3.out HRv3.out.2.2.2.2.1 HRv3.out.2.2.2.2.2 HL.out HLO.out HEO.out)
      exact hN _ _ _ _ _ _ _ _ _ _ _ _ _ _ _ _ HF
  · go_simp
    obtain ⟨ne, hne⟩ : ∃ z, z = u0.heap.size := ⟨_, rfl⟩
    obtain ⟨v0, hv0⟩ : ∃ z, z = u0.alloc (.cells #[.int .i64 e, .int .i64 g] 128) := ⟨_, rfl⟩
    have HRv0 : Hid (Bk v0 eA 116 #[.slice E n ec] ∧ Bk v0 sA 115 #[.slice A n c, .slice none 0 0, .slice none 0 0, .int .i64 0, .int .i64 0, .int .i64 0] ∧ Bk v0 ba 124 #[.int .i64 b.px, .int .i64 b.py, .int .i64 b.vx, .int .i64 b.vy, .int .i64 b.ang, .int .i64 b.spin, .int .i64 b.mass, .int .i64 b.inr, .int .i64 b.bou, .int .i64 b.rub, .slice (some ⟨g0, 0, none⟩) 4 cc, .bool b.asl, .int .i64 b.calm] ∧ Bk v0 ia 147 #[.int .i64 e, .int .i64 g, .slice iA iN ic] ∧ Kz [124, 128] w0 v0 ∧ Below base w0 v0) := Lib.hid (by rw [hv0]; obtain ⟨r0, r1, r2, r3, r4, r5⟩ := HRu0.out; exact ⟨r0.alloc _, r1.alloc _, r2.alloc _, r3.alloc _, r4.alloc _, r5.alloc (Nat.le_trans hbase r5.size) _⟩)
    have HBv0 : Hid (v0.ownsRow base 124 13 (.slice A n c) n (bmCs l)) := Lib.hid (by rw [hv0]; exact HBu0.out.alloc _)
    have HEv0 : Hid (v0.ownsRow base 128 2 (.slice E n ec) n (enCs (q.map Prod.snd))) := Lib.hid (by rw [hv0]; exact HEu0.out.alloc _)
    have Hnev0 : Hid (Bk v0 ne 128 #[.int .i64 e, .int .i64 g]) := Lib.hid (by rw [hv0, hne]; exact Bk.new _ _ _)
    rw [← hv0, ← hne]
    clear hv0 hne
    refine And.intro (HS2.out _ HRv0.out) ?_
    (try simp only [Act.put, List.setIfInBounds_toArray, List.set_cons_zero, List.set_cons_succ])
    refine wpAnyL_one (i := 3) rfl (by kernel_rfl) (by rfl) ?_
    go_simp
    obtain ⟨nb, hnb⟩ : ∃ z, z = v0.heap.size := ⟨_, rfl⟩
    obtain ⟨v1, hv1⟩ : ∃ z, z = v0.alloc (.cells #[.int .i64 b.px, .int .i64 b.py, .int .i64 b.vx, .int .i64 b.vy, .int .i64 b.ang, .int .i64 b.spin, .int .i64 b.mass, .int .i64 b.inr, .int .i64 b.bou, .int .i64 b.rub, .slice (some ⟨g0, 0, none⟩) 4 cc, .bool b.asl, .int .i64 b.calm] 124) := ⟨_, rfl⟩
    have HRv1 : Hid (Bk v1 eA 116 #[.slice E n ec] ∧ Bk v1 sA 115 #[.slice A n c, .slice none 0 0, .slice none 0 0, .int .i64 0, .int .i64 0, .int .i64 0] ∧ Bk v1 ba 124 #[.int .i64 b.px, .int .i64 b.py, .int .i64 b.vx, .int .i64 b.vy, .int .i64 b.ang, .int .i64 b.spin, .int .i64 b.mass, .int .i64 b.inr, .int .i64 b.bou, .int .i64 b.rub, .slice (some ⟨g0, 0, none⟩) 4 cc, .bool b.asl, .int .i64 b.calm] ∧ Bk v1 ia 147 #[.int .i64 e, .int .i64 g, .slice iA iN ic] ∧ Kz [124, 128] w0 v1 ∧ Below base w0 v1) := Lib.hid (by rw [hv1]; obtain ⟨r0, r1, r2, r3, r4, r5⟩ := HRv0.out; exact ⟨r0.alloc _, r1.alloc _, r2.alloc _, r3.alloc _, r4.alloc _, r5.alloc (Nat.le_trans hbase r5.size) _⟩)
    have HBv1 : Hid (v1.ownsRow base 124 13 (.slice A n c) n (bmCs l)) := Lib.hid (by rw [hv1]; exact HBv0.out.alloc _)
    have HEv1 : Hid (v1.ownsRow base 128 2 (.slice E n ec) n (enCs (q.map Prod.snd))) := Lib.hid (by rw [hv1]; exact HEv0.out.alloc _)
    have Hnbv1 : Hid (Bk v1 nb 124 #[.int .i64 b.px, .int .i64 b.py, .int .i64 b.vx, .int .i64 b.vy, .int .i64 b.ang, .int .i64 b.spin, .int .i64 b.mass, .int .i64 b.inr, .int .i64 b.bou, .int .i64 b.rub, .slice (some ⟨g0, 0, none⟩) 4 cc, .bool b.asl, .int .i64 b.calm]) := Lib.hid (by rw [hv1, hnb]; exact Bk.new _ _ _)
    have Hnev1 : Hid (Bk v1 ne 128 #[.int .i64 e, .int .i64 g]) := Lib.hid (by rw [hv1]; exact Hnev0.out.alloc _)
    rw [← hv1, ← hnb]
    clear hv1 hnb
    refine And.intro (HS2.out _ HRv1.out) ?_
    (try simp only [Act.put, List.setIfInBounds_toArray, List.set_cons_zero, List.set_cons_succ])
    refine wpAnyL_one (i := 4) rfl (by kernel_rfl) (by rfl) ?_
    refine wp_append_one (.tmp 40) (.tmp 42) 112 rfl base 124 iB (.agg #[.int .i64 0, .int .i64 0, .int .i64 0, .int .i64 0, .int .i64 0, .int .i64 0, .int .i64 0, .int .i64 0, .int .i64 0, .int .i64 0, .slice none 0 0, .bool false, .int .i64 0]) 13 120 Try.underlying112 hiB hB0 hB1 hB2 rfl (by decide) (.slice A n c) n (bmCs l) rfl HBv1.out nb 1 124 #[.int .i64 b.px, .int .i64 b.py, .int .i64 b.vx, .int .i64 b.vy, .int .i64 b.ang, .int .i64 b.spin, .int .i64 b.mass, .int .i64 b.inr, .int .i64 b.bou, .int .i64 b.rub, .slice (some ⟨g0, 0, none⟩) 4 cc, .bool b.asl, .int .i64 b.calm] rfl Hnbv1.out rfl (by simp [Value.oneCell']) (n + 1) rfl (by unfold maxLen; omega) (by omega) (Nat.le_trans hbase HRv1.out.2.2.2.2.2.size) ?_
    intro gB cB v2 hown hgr hat
    have HRv2 : Hid (Bk v2 eA 116 #[.slice E n ec] ∧ Bk v2 sA 115 #[.slice A n c, .slice none 0 0, .slice none 0 0, .int .i64 0, .int .i64 0, .int .i64 0] ∧ Bk v2 ba 124 #[.int .i64 b.px, .int .i64 b.py, .int .i64 b.vx, .int .i64 b.vy, .int .i64 b.ang, .int .i64 b.spin, .int .i64 b.mass, .int .i64 b.inr, .int .i64 b.bou, .int .i64 b.rub, .slice (some ⟨g0, 0, none⟩) 4 cc, .bool b.asl, .int .i64 b.calm] ∧ Bk v2 ia 147 #[.int .i64 e, .int .i64 g, .slice iA iN ic] ∧ Kz [124, 128] w0 v2 ∧ Below base w0 v2) := Lib.hid (by obtain ⟨r0, r1, r2, r3, r4, r5⟩ := HRv1.out; exact ⟨r0.grown hgr (fun e => own_ne HBv1.out r0 (by decide) e.symm), r1.grown hgr (fun e => own_ne HBv1.out r1 (by decide) e.symm), r2.grown hgr (fun e => hne e.symm), r3.grown hgr (fun e => own_ne HBv1.out r3 (by decide) e.symm), r4.grown HBv1.out hgr (by simp), r5.trans (grown_below HBv1.out hgr (Nat.le_trans hbase r5.size))⟩)
    have HBv2 : Hid (v2.ownsRow base 124 13 (.slice (some ⟨gB, 0, none⟩) (n + 1) cB) (n + 1) (bmCs l ++ #[.int .i64 b.px, .int .i64 b.py, .int .i64 b.vx, .int .i64 b.vy, .int .i64 b.ang, .int .i64 b.spin, .int .i64 b.mass, .int .i64 b.inr, .int .i64 b.bou, .int .i64 b.rub, .slice (some ⟨g0, 0, none⟩) 4 cc, .bool b.asl, .int .i64 b.calm].toList)) := Lib.hid hown
    have HEv2 : Hid (v2.ownsRow base 128 2 (.slice E n ec) n (enCs (q.map Prod.snd))) := Lib.hid (((Kx.refl (B := 0) (F := [124])).grown HBv1.out hgr (Nat.zero_le _) (by simp)).own HEv1.out (by decide))
    have Hnev2 : Hid (Bk v2 ne 128 #[.int .i64 e, .int .i64 g]) := Lib.hid (Hnev1.out.grown hgr (fun e => own_ne HBv1.out Hnev1.out (by decide) e.symm))
    clear hown hgr hat
    refine And.intro (HS2.out _ HRv2.out) ?_
    (try simp only [Act.put, List.setIfInBounds_toArray])
    refine wpAnyL_val (i := 10) (v := .pointer (some ⟨sA, 0, none⟩)) (d := some 49) rfl rfl (by kernel_rfl) (by kernel_rfl) (by kernel_rfl) (by kernel_rfl) (fun _ _ _ h => h) (Or.inl ⟨by rfl, fun w hS => by (obtain ⟨h0, h1, h2, h3, h4, h5, h6, h7, h8, h9, h10, h11, h12, h13, h14, h15, h16⟩ := hS; go_simp)⟩) (HS2.out _ HRv2.out) ?_
    (try simp only [Act.put])
    refine wpAnyL_one (i := 9) rfl (by kernel_rfl) (by rfl) ?_
    refine wp_append_one (.tmp 44) (.tmp 47) 116 rfl base 128 iE (.agg #[.int .i64 0, .int .i64 0]) 2 16 Try.underlying116 hiE hE0 hE1 hE2 rfl (by decide) (.slice E n ec) n (enCs (q.map Prod.snd)) rfl HEv2.out ne 1 128 #[.int .i64 e, .int .i64 g] rfl Hnev2.out rfl (by simp [Value.oneCell']) (n + 1) rfl (by unfold maxLen; omega) (by omega) (Nat.le_trans hbase HRv2.out.2.2.2.2.2.size) ?_
    intro gE cE v3 hown hgr hat
    have HRv3 : Hid (Bk v3 eA 116 #[.slice E n ec] ∧ Bk v3 sA 115 #[.slice A n c, .slice none 0 0, .slice none 0 0, .int .i64 0, .int .i64 0, .int .i64 0] ∧ Bk v3 ba 124 #[.int .i64 b.px, .int .i64 b.py, .int .i64 b.vx, .int .i64 b.vy, .int .i64 b.ang, .int .i64 b.spin, .int .i64 b.mass, .int .i64 b.inr, .int .i64 b.bou, .int .i64 b.rub, .slice (some ⟨g0, 0, none⟩) 4 cc, .bool b.asl, .int .i64 b.calm] ∧ Bk v3 ia 147 #[.int .i64 e, .int .i64 g, .slice iA iN ic] ∧ Kz [124, 128] w0 v3 ∧ Below base w0 v3) := Lib.hid (by obtain ⟨r0, r1, r2, r3, r4, r5⟩ := HRv2.out; exact ⟨r0.grown hgr (fun e => own_ne HEv2.out r0 (by decide) e.symm), r1.grown hgr (fun e => own_ne HEv2.out r1 (by decide) e.symm), r2.grown hgr (fun e => own_ne HEv2.out r2 (by decide) e.symm), r3.grown hgr (fun e => own_ne HEv2.out r3 (by decide) e.symm), r4.grown HEv2.out hgr (by simp), r5.trans (grown_below HEv2.out hgr (Nat.le_trans hbase r5.size))⟩)
    have HEv3 : Hid (v3.ownsRow base 128 2 (.slice (some ⟨gE, 0, none⟩) (n + 1) cE) (n + 1) (enCs (q.map Prod.snd) ++ #[.int .i64 e, .int .i64 g].toList)) := Lib.hid hown
    have HBv3 : Hid (v3.ownsRow base 124 13 (.slice (some ⟨gB, 0, none⟩) (n + 1) cB) (n + 1) (bmCs l ++ #[.int .i64 b.px, .int .i64 b.py, .int .i64 b.vx, .int .i64 b.vy, .int .i64 b.ang, .int .i64 b.spin, .int .i64 b.mass, .int .i64 b.inr, .int .i64 b.bou, .int .i64 b.rub, .slice (some ⟨g0, 0, none⟩) 4 cc, .bool b.asl, .int .i64 b.calm].toList)) := Lib.hid (((Kx.refl (B := 0) (F := [128])).grown HEv2.out hgr (Nat.zero_le _) (by simp)).own HBv2.out (by decide))
    clear hown hgr hat
    refine And.intro (HS2.out _ HRv3.out) ?_
    (try simp only [Act.put])
    have q0 : v3.cell? ⟨sA, 0, none⟩ = some (.slice A n c) := HRv3.out.2.1.cell 0
    have f0 : v3.frozen? ⟨sA, 0, none⟩ = false := HRv3.out.2.1.frozen 0
    refine wpAnyL_late (i := 11) rfl (by kernel_rfl) (by rfl) (by kernel_rfl) ?_
    go_simp
    (try simp only [Act.put, List.setIfInBounds_toArray, List.set_cons_zero, List.set_cons_succ])
    have HX : Hid (Bk (v3.setCell ⟨sA, 0, none⟩ (.slice (some ⟨gB, 0, none⟩) (n + 1) cB)) eA 116 #[.slice E n ec]) := Lib.hid (HRv3.out.1.far (p := ⟨sA, 0, none⟩) (HRv3.out.1.ne_ HRv3.out.2.1 (by decide)) _)
    have e0 : v3.cell? ⟨eA, 0, none⟩ = some (.slice E n ec) := HRv3.out.1.cell 0
    have e1 : v3.frozen? ⟨eA, 0, none⟩ = false := HRv3.out.1.frozen 0
    have e2 : (v3.setCell ⟨sA, 0, none⟩ (.slice (some ⟨gB, 0, none⟩) (n + 1) cB)).cell? ⟨eA, 0, none⟩ = some (.slice E n ec) := HX.out.cell 0
    have e3 : (v3.setCell ⟨sA, 0, none⟩ (.slice (some ⟨gB, 0, none⟩) (n + 1) cB)).frozen? ⟨eA, 0, none⟩ = false := HX.out.frozen 0
    refine wpAnyL_late (i := 12) rfl (by kernel_rfl) (by rfl) (by kernel_rfl) ?_
    go_simp
    (try simp only [Act.put, List.setIfInBounds_toArray, List.set_cons_zero, List.set_cons_succ])
    clear e0 e1 e2 e3 q0 f0 HX
    refine wpAnyL_done (by kernel_rfl) ?_ _
    refine NoPanic.normal ?_
    have HF := Lib.hid (so9_fin HRv3.out.1 HRv3.out.2.1 HBv3.out HEv3.out HRv3.out.2.2.2.2.1 HRv3.out.2.2.2.2.2 HL.out HLO.out HEO.out)
    exact hN _ _ _ _ _ _ _ _ _ _ _ _ _ _ _ _ HF
/-! ### Bo -/
noncomputable def soItem : Code := (Try.f57.body.bind (blkN 1)).getD .skip
set_option maxHeartbeats 8000000 in
theorem soItem_any {x0 x1 x2 x3 x4 x5 x7 x10 x11 x12 x13 x14 x15 x16 x17 x18 x19 x20 x21 x22 x23 x24 x25 x27 x29 x30 x31 x32 x33 x34 x35 x36 x37 x38 x39 x40 x41 x42 x43 x44 x45 x46 x47 x48 x49 x50 x51 x52 x53 x54 x55 x56 x57 x58 x59 x60 x61 x62 x63 x64 x65 x66 x67 x68 x69 x70 x71 x72 x73 x74 x75 x76 x77 x78 x79 x80 x81 x82 x83 x84 : Value} {Q : Exit → Act → World → Prop} {w0 : World} {B base sA eA n c ec mA im ic k : Nat} {A E IA : Option Addr} {its : List It} {it : It} {m0 m1 m2 m3 m4 : Int} {q : List (Bo × (Int × Int))}
    (hits : IsOk w0 B IA im ic its) (hk : its[k]? = some it) (hm : Bk w0 mA 141 #[.int .i64 m0, .int .i64 m1, .int .i64 m2, .int .i64 m3, .int .i64 m4]) (hS : ScI w0 base sA A n c E ec 0 0 0 q) (he : Bk w0 eA 116 #[.slice E n ec]) (heo : base ≤ eA)
    (hv0 : VaOk it.cms m0 3) (hv1 : VaOk it.cms m1 4) (hv2 : VaOk it.cms m2 5) (hneg : ∀ k, k < 0 → cmAt it.cms k = none) (hszs : ∀ cm ∈ it.cms, cm.n ≤ 1048576) (hn256 : n ≤ 256) (_hB : B ≤ base) (hbase : base ≤ w0.heap.size)
    (hNo : ∀ (y11 y12 y13 y30 y31 y32 y33 y34 y35 y36 y37 y38 y39 y40 y41 y42 y43 y44 y45 y46 y47 y48 y49 : Value) (w' : World), Hid (bodyF m0 m1 m2 it.cms = none ∧ Below w0.heap.size w0 w') → Q .normal ⟨#[x0, x1, x2, x3, x4, x5, .pointer (some ⟨mA, 0, none⟩), x7, .pointer (some ⟨sA, 0, none⟩), .pointer (some ⟨eA, 0, none⟩), x10, y11, y12, y13, x14, x15, x16, x17, x18, x19, x20, x21, x22, x23, x24, x25, .slice IA im ic, x27, .int .i64 (k : Int), x29, y30, y31, y32, y33, y34, y35, y36, y37, y38, y39, y40, y41, y42, y43, y44, y45, y46, y47, y48, y49, x50, x51, x52, x53, x54, x55, x56, x57, x58, x59, x60, x61, x62, x63, x64, x65, x66, x67, x68, x69, x70, x71, x72, x73, x74, x75, x76, x77, x78, x79, x80, x81, x82, x83, x84], []⟩ w')
    (hYes : ∀ (y11 y12 y13 y30 y31 y32 y33 y34 y35 y36 y37 y38 y39 y40 y41 y42 y43 y44 y45 y46 y47 y48 y49 : Value) (gB cB gE cE : Nat) (b : Bo) (w' : World), Hid (bodyF m0 m1 m2 it.cms = some b ∧ ScI w' base sA (some ⟨gB, 0, none⟩) (n + 1) cB (some ⟨gE, 0, none⟩) cE 0 0 0 (q ++ [(b, (it.e, it.g))]) ∧ Bk w' eA 116 #[.slice (some ⟨gE, 0, none⟩) (n + 1) cE] ∧ Kx 0 [124, 128, 115, 116] w0 w' ∧ (∀ g cs, g ≠ sA → Bk w0 g 115 cs → Bk w' g 115 cs) ∧ Below base w0 w') → Q .normal ⟨#[x0, x1, x2, x3, x4, x5, .pointer (some ⟨mA, 0, none⟩), x7, .pointer (some ⟨sA, 0, none⟩), .pointer (some ⟨eA, 0, none⟩), x10, y11, y12, y13, x14, x15, x16, x17, x18, x19, x20, x21, x22, x23, x24, x25, .slice IA im ic, x27, .int .i64 (k : Int), x29, y30, y31, y32, y33, y34, y35, y36, y37, y38, y39, y40, y41, y42, y43, y44, y45, y46, y47, y48, y49, x50, x51, x52, x53, x54, x55, x56, x57, x58, x59, x60, x61, x62, x63, x64, x65, x66, x67, x68, x69, x70, x71, x72, x73, x74, x75, x76, x77, x78, x79, x80, x81, x82, x83, x84], []⟩ w') :
    Code.wp Try.prog soItem Q ⟨#[x0, x1, x2, x3, x4, x5, .pointer (some ⟨mA, 0, none⟩), x7, .pointer (some ⟨sA, 0, none⟩), .pointer (some ⟨eA, 0, none⟩), x10, x11, x12, x13, x14, x15, x16, x17, x18, x19, x20, x21, x22, x23, x24, x25, .slice IA im ic, x27, .int .i64 (k : Int), x29, x30, x31, x32, x33, x34, x35, x36, x37, x38, x39, x40, x41, x42, x43, x44, x45, x46, x47, x48, x49, x50, x51, x52, x53, x54, x55, x56, x57, x58, x59, x60, x61, x62, x63, x64, x65, x66, x67, x68, x69, x70, x71, x72, x73, x74, x75, x76, x77, x78, x79, x80, x81, x82, x83, x84], []⟩ w0 := by
  conv => arg 2; whnf
  have hmem := List.mem_of_getElem? hk
  have hkn : k < im := by rw [hits.len]; exact (List.getElem?_eq_some_iff.1 hk).1
  obtain ⟨bi, oi, hIA, hbi, q0, q1, q2⟩ := Rd.it hits.rd hkn hk
  subst hIA
  have hkz : (k : Int) < im := by omega
  have hkz0 : (0 : Int) ≤ k := by omega
  have hIC := hits.cap
  have hIC2 := hits.cap2
  obtain ⟨R, hR⟩ : ∃ R, R = bodyF m0 m1 m2 it.cms := ⟨_, rfl⟩
  obtain ⟨ia, hia⟩ : ∃ z, z = w0.heap.size := ⟨_, rfl⟩
  obtain ⟨W1, hW1⟩ : ∃ z, z = w0.alloc (.cells #[.int .i64 it.e, .int .i64 it.g, .slice it.A it.n it.c] 147) := ⟨_, rfl⟩
  have hb1 : Below w0.heap.size w0 W1 := by rw [hW1]; exact (Below.refl _ _).alloc (Nat.le_refl _) _
  have HIA : Hid (Bk W1 ia 147 #[.int .i64 it.e, .int .i64 it.g, .slice it.A it.n it.c]) := Lib.hid (by rw [hW1, hia]; exact Bk.new _ _ _)
  have HBD : Hid (Calls Try.prog 136 #[.agg #[.int .i64 m0, .int .i64 m1, .int .i64 m2, .int .i64 m3, .int .i64 m4], .agg #[.int .i64 it.e, .int .i64 it.g, .slice it.A it.n it.c]] W1 (BoP W1 R)) := Lib.hid (by
    rw [hR]
    exact rbody_any ((hits.ok it hmem).cs.below (hb1.mono hits.lo)) it.e it.g m0 m1 m2 m3 m4 hv0 hv1 hv2 hneg hszs)
  have HM1 : Hid (Bk W1 mA 141 #[.int .i64 m0, .int .i64 m1, .int .i64 m2, .int .i64 m3, .int .i64 m4]) := Lib.hid (hm.below hb1 hm.lt)
  have HS1 : Hid (ScI W1 base sA A n c E ec 0 0 0 q) := Lib.hid (hS.keep (F := []) (Kx.of_below hb1) (by simp) (by simp) (by simp) (by simp))
  have HE1 : Hid (Bk W1 eA 116 #[.slice E n ec]) := Lib.hid (he.below hb1 he.lt)
  have HEO := Lib.hid heo
  have HB1 := Lib.hid hb1
  have HBS : Hid (base ≤ W1.heap.size ∧ w0.heap.size ≤ W1.heap.size) := Lib.hid ⟨Nat.le_trans hbase hb1.size, hb1.size⟩
  have HRR := Lib.hid hR
  clear hits hk hm hS he heo hv0 hv1 hv2 hneg hszs hmem hb1 hbi hR
  go_upto_region 7 with fail
  rw [← hW1, ← hia]
  clear q0 q1 q2 hW1 hia
  have a0 : W1.cell? ⟨mA, 0, none⟩ = some (.int .i64 m0) := HM1.out.cell 0
  have a1 : W1.cell? ⟨mA, 1, none⟩ = some (.int .i64 m1) := HM1.out.cell 1
  have a2 : W1.cell? ⟨mA, 2, none⟩ = some (.int .i64 m2) := HM1.out.cell 2
  have a3 : W1.cell? ⟨mA, 3, none⟩ = some (.int .i64 m3) := HM1.out.cell 3
  have a4 : W1.cell? ⟨mA, 4, none⟩ = some (.int .i64 m4) := HM1.out.cell 4
  have i0 : W1.cell? ⟨ia, 0, none⟩ = some (.int .i64 it.e) := HIA.out.cell 0
  have i1 : W1.cell? ⟨ia, 1, none⟩ = some (.int .i64 it.g) := HIA.out.cell 1
  have i2 : W1.cell? ⟨ia, 2, none⟩ = some (.slice it.A it.n it.c) := HIA.out.cell 2
  go_wp2_with fail
  (with_reducible refine HBD.out.mono ?_)
  rintro e' w2 ⟨hb2, hr2⟩
  have HB2 := Lib.hid hb2
  clear a0 a1 a2 a3 a4 i0 i1 i2 HBD hb2
  rcases R with _ | b
  · dsimp only at hr2
    subst hr2
    unfold BoZ
    have HBX : Hid (Below w0.heap.size w0 w2) := Lib.hid (HB1.out.trans (HB2.out.mono HBS.out.2))
    have hlo : w0.heap.size ≤ w2.heap.size := HBX.out.size
    have HR : Hid (bodyF m0 m1 m2 it.cms = none ∧ Below w0.heap.size w0 (w2.alloc (.cells #[.int .i64 0, .int .i64 0, .int .i64 0, .int .i64 0, .int .i64 0, .int .i64 0, .int .i64 0, .int .i64 0, .int .i64 0, .int .i64 0, .slice none 0 0, .bool false, .int .i64 0] 124))) := Lib.hid ⟨HRR.out.symm, HBX.out.alloc hlo _⟩
    go_wp2_with fail
    (try simp only [Exit.inBlock, Exit.then])
    first
      | exact HR
      | exact hNo _ _ _ _ _ _ _ _ _ _ _ _ _ _ _ _ _ _ _ _ _ _ _ _ HR
  · dsimp only at hr2
    obtain ⟨g0, cc, rfl, hown⟩ := hr2
    unfold Bo.v
    obtain ⟨ba, hba⟩ : ∃ z, z = w2.heap.size := ⟨_, rfl⟩
    obtain ⟨W3, hW3⟩ : ∃ z, z = w2.alloc (.cells #[.int .i64 b.px, .int .i64 b.py, .int .i64 b.vx, .int .i64 b.vy, .int .i64 b.ang, .int .i64 b.spin, .int .i64 b.mass, .int .i64 b.inr, .int .i64 b.bou, .int .i64 b.rub, .slice (some ⟨g0, 0, none⟩) 4 cc, .bool b.asl, .int .i64 b.calm] 124) := ⟨_, rfl⟩
    have HB3 : Hid (Below W1.heap.size W1 W3) := Lib.hid (by rw [hW3]; exact HB2.out.alloc HB2.out.size _)
    have HBA : Hid (Bk W3 ba 124 #[.int .i64 b.px, .int .i64 b.py, .int .i64 b.vx, .int .i64 b.vy, .int .i64 b.ang, .int .i64 b.spin, .int .i64 b.mass, .int .i64 b.inr, .int .i64 b.bou, .int .i64 b.rub, .slice (some ⟨g0, 0, none⟩) 4 cc, .bool b.asl, .int .i64 b.calm]) := Lib.hid (by rw [hW3, hba]; exact Bk.new _ _ _)
    have HBY : Hid (BmY W3 base ⟨b, g0, cc⟩) := Lib.hid (by rw [hW3]; exact own_monoB (hown.alloc _) HBS.out.1)
    have HLT : Hid (W1.heap.size ≤ ba) := Lib.hid (by rw [hba]; exact HB2.out.size)
    have HB03 : Hid (Below base w0 W3) := Lib.hid ((HB1.out.mono hbase).trans (HB3.out.mono HBS.out.1))
    have HIA3 := Lib.hid (HIA.out.below HB3.out HIA.out.lt)
    have HE3 := Lib.hid (HE1.out.below HB3.out HE1.out.lt)
    have HS3 : Hid (ScI W3 base sA A n c E ec 0 0 0 q) := Lib.hid (HS1.out.keep (F := []) (Kx.of_below HB3.out) (by simp) (by simp) (by simp) (by simp))
    have HQ : Hid (n = q.length) := Lib.hid HS1.out.len
    have HNE : Hid ((Value.slice A n c).ownBlock ≠ some ba) := Lib.hid (by
      obtain ⟨l, hl, _⟩ := HS1.out.bm
      intro e
      have := (hl.own.lt ba e).2
      have := HLT.out
      omega)
    have HK03 : Hid (Kx 0 [124, 128, 115, 116] w0 W3) := Lib.hid ((Kx.of_below HB1.out).trans (Kx.of_below HB3.out))
    have HK3 : Hid (∀ g cs, Bk w0 g 115 cs → Bk W3 g 115 cs) := Lib.hid fun g cs h => (h.below HB1.out h.lt).below HB3.out (h.below HB1.out h.lt).lt
    go_upto_region 9 with fail
    rw [← hW3, ← hba]
    have HSZ3 : Hid (base ≤ W3.heap.size) := Lib.hid (Nat.le_trans hbase HB03.out.size)
    clear hW3 hba hown
    refine so9_any HS3.out HE3.out HEO.out HIA3.out HBA.out HBY.out (by rw [← HQ.out]; exact hn256) HSZ3.out HNE.out ?_
    intro z39 z40 z41 z42 z43 z44 z45 z46 z47 z48 z49 gB cB gE cE w5 H5
    have HF : Hid (bodyF m0 m1 m2 it.cms = some b ∧ ScI w5 base sA (some ⟨gB, 0, none⟩) (n + 1) cB (some ⟨gE, 0, none⟩) cE 0 0 0 (q ++ [(b, (it.e, it.g))]) ∧ Bk w5 eA 116 #[.slice (some ⟨gE, 0, none⟩) (n + 1) cE] ∧ Kx 0 [124, 128, 115, 116] w0 w5 ∧ (∀ g cs, g ≠ sA → Bk w0 g 115 cs → Bk w5 g 115 cs) ∧ Below base w0 w5) := Lib.hid ⟨HRR.out.symm, H5.out.1, H5.out.2.1, HK03.out.trans H5.out.2.2.1.kx, fun g cs hg h => H5.out.2.2.2.2 g cs hg (HK3.out g cs h), HB03.out.trans H5.out.2.2.2.1⟩
    (try simp only [Exit.inBlock])
    first
      | exact HF
      | exact hYes _ _ _ _ _ _ _ _ _ _ _ _ _ _ _ _ _ _ _ _ _ _ _ _ _ _ _ b _ HF
/-! ### Bn -/
theorem enCs_get (l : List (Int × Int)) (k j : Nat) (f : Int × Int) (h : l[k]? = some f) (hj : j < 2) : (enCs l)[k * 2 + j]? = ([.int .i64 f.1, .int .i64 f.2] : List Value)[j]? := by
  induction l generalizing k with
  | nil => simp at h
  | cons a l ih =>
    have e : enCs (a :: l) = [.int .i64 a.1, .int .i64 a.2] ++ enCs l := by simp [enCs]
    rw [e]
    cases k with
    | zero =>
      have ea : a = f := by simpa using h
      subst ea
      rw [List.getElem?_append_left (by simp; omega)]
      congr 1; omega
    | succ k =>
      rw [List.getElem?_append_right (by simp; omega)]
      rw [show (k + 1) * 2 + j - ([.int .i64 a.1, .int .i64 a.2] : List Value).length = k * 2 + j by simp; omega]
      exact ih k (by simpa using h)
theorem Rd.en {w : World} {B n : Nat} {A : Option Addr} {l : List (Int × Int)} {k : Nat} {f : Int × Int} (h : Rd w B 2 A n (enCs l)) (hk : k < n) (hf : l[k]? = some f) :
    ∃ b o, A = some ⟨b, o, none⟩ ∧ b < B ∧ w.cell? ⟨b, o + k * 2, none⟩ = some (.int .i64 f.1) ∧ w.cell? ⟨b, o + k * 2 + 1, none⟩ = some (.int .i64 f.2) := by
  obtain ⟨b, o, e, hb, hc⟩ := h.2 (by omega)
  exact ⟨b, o, e, hb, hc (k * 2) _ ((enCs_get l k 0 f hf (by omega)).trans rfl), by rw [Nat.add_assoc]; exact hc (k * 2 + 1) _ ((enCs_get l k 1 f hf (by omega)).trans rfl)⟩
def slotI (l : List (Int × Int)) (N : Int) : Int := idxF (fun e : Int × Int => decide (e.1 = N)) l
theorem clo139_any (xe xg : Int) (gb : Nat) (N : Int) (w : World) (hb : w.cell? ⟨gb, 0, none⟩ = some (.int .i64 N)) (hgb : gb < w.heap.size) :
    Calls Try.prog 139 #[.agg #[.int .i64 xe, .int .i64 xg], .pointer (some ⟨gb, 0, none⟩)] w fun e w' => e = .returned (.bool (decide (xe = N))) ∧ Below w.heap.size w w' := by
  have hb1 : (w.alloc (.cells #[.int .i64 xe, .int .i64 xg] 128)).cell? ⟨gb, 0, none⟩ = some (.int .i64 N) := (((Below.refl w.heap.size w).alloc (Nat.le_refl _) _).cell (p := ⟨gb, 0, none⟩) hgb).trans hb
  have HB := Lib.hid ((Below.refl w.heap.size w).alloc (Nat.le_refl _) (.cells #[.int .i64 xe, .int .i64 xg] 128))
  obtain ⟨d, hd⟩ : ∃ d, d = decide (xe = N) := ⟨_, rfl⟩
  have t0 : (xe == N) = d := by rw [hd]; rw [Bool.eq_iff_iff]; simp
  rw [← hd]
  clear hb hd
  cases d
  all_goals
    go_enter Try.func139, Try.ntmps139
    go_wp2_with fail
    go_ret
    exact ⟨rfl, HB.out⟩
set_option maxHeartbeats 1600000 in
theorem idxEnt_any {w : World} {B n c : Nat} {A : Option Addr} {l : List (Int × Int)} (gb : Nat) (N : Int) (h : Rd w B 2 A n (enCs l)) (hlen : n = l.length) (hcap : n ≤ c) (hcap2 : c ≤ 9223372036854775807) (hB : B ≤ w.heap.size) (hb : w.cell? ⟨gb, 0, none⟩ = some (.int .i64 N)) (hgb : gb < w.heap.size) :
    Calls Try.prog 138 #[.slice A n c, .func (.func 139) #[] #[.pointer (some ⟨gb, 0, none⟩)]] w fun e w' => e = .returned (.int .i64 (slotI l N)) ∧ Below w.heap.size w w' := by
  obtain ⟨R, hR⟩ : ∃ R, R = slotI l N := ⟨_, rfl⟩
  rw [← hR]
  have HR := Lib.hid hR
  have HK : Hid (Rd w B 2 A n (enCs l) ∧ n = l.length) := Lib.hid ⟨h, hlen⟩
  have HB := Lib.hid hb
  clear h hR hb hlen
  go_enter Try.func138, Try.ntmps138
  go_wp2_with fail
  go_loopw [8] (fun i wr => ∃ k : Nat, k ≤ n ∧ i = .int .i64 k ∧ Hid (∀ j x, j < k → l[j]? = some x → x.1 ≠ N) ∧ Hid (Below w.heap.size w wr)) (fun i _ => n - (intOf i).toNat)
  case atStart => exact ⟨0, Nat.zero_le _, rfl, Lib.hid (fun j x hj => by omega), Lib.hid (Below.refl _ _)⟩
  case round =>
    obtain ⟨k, hk, rfl, HT, HW⟩ := hrel
    by_cases hlt : k < n
    · obtain ⟨x, hx⟩ : ∃ x, l[k]? = some x := ⟨_, List.getElem?_eq_getElem (by have := HK.out.2; omega)⟩
      obtain ⟨b, o, rfl, hbb, q0, q1⟩ := (HK.out.1.below (HW.out.mono hB)).en hlt hx
      have hcl := clo139_any x.1 x.2 gb N wr ((HW.out.cell (p := ⟨gb, 0, none⟩) hgb).trans HB.out) (by have := HW.out.size; omega)
      obtain ⟨d, hd⟩ : ∃ d, d = decide (x.1 = N) := ⟨_, rfl⟩
      rw [← hd] at hcl
      have HCL := Lib.hid hcl
      have HX := Lib.hid hx
      have HD := Lib.hid hd
      have hkn : (k : Int) < n := by omega
      have hk0 : (0 : Int) ≤ k := by omega
      clear hx hcl hd
      go_wp2_with fail
      (with_reducible refine HCL.out.mono ?_)
      rintro e w3 ⟨rfl, hb3⟩
      have HB3 := Lib.hid (HW.out.trans (hb3.mono HW.out.size))
      clear hb3
      cases d
      · go_wp2_with fail
        go_roundw
        case measure => simp [intOf]; omega
        case rel => exact ⟨k + 1, by omega, by go_num, Lib.hid (fun j y hj hy => by
          rcases Nat.lt_or_ge j k with h | h
          · exact HT.out j y h hy
          · obtain rfl : j = k := by omega
            rw [HX.out] at hy
            injection hy with hy
            rw [← hy]; exact of_decide_eq_false HD.out.symm), HB3⟩
      · go_wp2_with fail
        go_ret
        rw [HR.out]
        unfold slotI
        rw [idxF_hit HX.out HD.out.symm fun j y hj hy => decide_eq_false (HT.out j y hj hy)]
        exact ⟨rfl, HB3.out⟩
    · obtain rfl : n = k := by omega
      go_wp2_with fail
      go_ret
      rw [HR.out]
      unfold slotI
      rw [idxF_none fun j y hy => decide_eq_false (HT.out j y (by have := (List.getElem?_eq_some_iff.1 hy).1; have := HK.out.2; omega) hy)]
      exact ⟨rfl, HW.out⟩
set_option maxHeartbeats 1600000 in
theorem slotI_any {w : World} {B n c eA : Nat} {A : Option Addr} {l : List (Int × Int)} (N : Int) (h : Rd w B 2 A n (enCs l)) (hlen : n = l.length) (hcap : n ≤ c) (hcap2 : c ≤ 9223372036854775807) (hB : B ≤ w.heap.size) (he : Bk w eA 116 #[.slice A n c]) :
    Calls Try.prog 137 #[.int .i64 N, .pointer (some ⟨eA, 0, none⟩)] w fun e w' => e = .returned (.int .i64 (slotI l N)) ∧ Below w.heap.size w w' := by
  obtain ⟨R, hR⟩ : ∃ R, R = slotI l N := ⟨_, rfl⟩
  rw [← hR]
  obtain ⟨gb, hgb⟩ : ∃ z, z = w.heap.size := ⟨_, rfl⟩
  obtain ⟨W1, hW1⟩ : ∃ z, z = w.alloc (.cells #[.int .i64 N] 3) := ⟨_, rfl⟩
  have hb1 : Below w.heap.size w W1 := by rw [hW1]; exact (Below.refl _ _).alloc (Nat.le_refl _) _
  have hk1 : Bk W1 gb 3 #[.int .i64 N] := by rw [hW1, hgb]; exact Bk.new _ _ _
  have hcl := idxEnt_any (w := W1) gb N (h.below (hb1.mono hB)) hlen hcap hcap2 (Nat.le_trans hB hb1.size) (hk1.cell 0) hk1.lt
  rw [← hR] at hcl
  have HCL := Lib.hid hcl
  have HE := Lib.hid (he.below hb1 he.lt)
  have HB1 := Lib.hid hb1
  clear h hlen hcap hcap2 hB he hb1 hk1 hcl hR
  go_enter Try.func137, Try.ntmps137
  go_upto_region 1 with fail
  rw [← hW1, ← hgb]
  clear hW1 hgb
  have a0 : W1.cell? ⟨eA, 0, none⟩ = some (.slice A n c) := HE.out.cell 0
  go_wp2_with fail
  (with_reducible refine HCL.out.mono ?_)
  rintro e w2 ⟨rfl, hb2⟩
  have HB2 := Lib.hid (HB1.out.trans (hb2.mono HB1.out.size))
  clear hb2 HE HCL a0
  go_wp2_with fail
  go_ret
  exact ⟨rfl, HB2.out⟩
end Go.Proofs.Ytnidcmhfbkdioaa
