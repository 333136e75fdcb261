/-
  The reference's network: what has been sent, as a list of arrivals; the contracts of Due and Arrivals. Conditions: what is read can be read, numbers of moderate size.
-/
import Derived.Test.YtlgcdcjfobfoiaaNs1
namespace Go.Proofs.Ytlgcdcjfobfoiaa
open Go.RowKit
set_option maxRecDepth 100000

def Ky : Type := Int × Int × Int × Int × List Int
def keyS (ds : List Dd) (i : Nat) (s : Sn) : List (Int × Int × Int × Int × List Int) := (timesOf ds i s.st).map fun t => (t, (i : Int), s.fr, s.to, s.dat)
def keysOf (ds : List Dd) (l : List Sn) : List (Int × Int × Int × Int × List Int) := l.zipIdx.flatMap fun p => keyS ds p.2 p.1
theorem keysOf_snoc (ds : List Dd) (l : List Sn) (s : Sn) : keysOf ds (l ++ [s]) = keysOf ds l ++ keyS ds l.length s := by
  simp [keysOf, List.zipIdx_append]
theorem keysOf_take (ds : List Dd) (l : List Sn) (k : Nat) (s : Sn) (h : l[k]? = some s) : keysOf ds (l.take (k + 1)) = keysOf ds (l.take k) ++ keyS ds k s := by
  have h1 : l.take (k + 1) = l.take k ++ [s] := by rw [List.take_add_one, h]; rfl
  have h2 : (l.take k).length = k := by
    have := (List.getElem?_eq_some_iff.1 h).1
    rw [List.length_take]; omega
  rw [h1, keysOf_snoc, h2]
def gtC (step : Int) (ts : List Int) : Nat := ts.countP fun t => decide (step < t)
def dueC (ds : List Dd) (l : List Sn) (step : Int) : Nat := (keysOf ds l).countP fun k => decide (step < k.1)
theorem keyS_count (ds : List Dd) (i : Nat) (s : Sn) (step : Int) : (keyS ds i s).countP (fun k => decide (step < k.1)) = gtC step (timesOf ds i s.st) := by
  unfold keyS gtC; rw [List.countP_map]; rfl
theorem dueC_take (ds : List Dd) (l : List Sn) (k : Nat) (s : Sn) (step : Int) (h : l[k]? = some s) : dueC ds (l.take (k + 1)) step = dueC ds (l.take k) step + gtC step (timesOf ds k s.st) := by
  unfold dueC; rw [keysOf_take ds l k s h, List.countP_append, keyS_count]
theorem gtC_take (step : Int) (ts : List Int) (j : Nat) (t : Int) (h : ts[j]? = some t) : gtC step (ts.take (j + 1)) = gtC step (ts.take j) + if step < t then 1 else 0 := by
  unfold gtC; rw [List.take_add_one, h, List.countP_append]; simp [List.countP_cons]
theorem gtC_le (step : Int) (ts : List Int) : gtC step ts ≤ ts.length := List.countP_le_length
theorem keysOf_length (ds : List Dd) (l : List Sn) : (keysOf ds l).length ≤ l.length * (ds.length + 1) := by
  have gen : ∀ (l : List Sn) (k : Nat), ((l.zipIdx k).flatMap fun p => keyS ds p.2 p.1).length ≤ l.length * (ds.length + 1) := by
    intro l
    induction l with
    | nil => intro k; simp
    | cons a l ih =>
      intro k
      rw [List.zipIdx_cons, List.flatMap_cons, List.length_append, List.length_cons, Nat.add_mul]
      have h1 := ih (k + 1)
      show (keyS ds k a).length + _ ≤ _
      have h2 : (keyS ds k a).length ≤ ds.length + 1 := by unfold keyS; rw [List.length_map]; exact timesOf_length _ _ _
      omega
  exact gen l 0
theorem dueC_le (ds : List Dd) (l : List Sn) (step : Int) : dueC ds l step ≤ l.length * (ds.length + 1) := Nat.le_trans List.countP_le_length (keysOf_length ds l)

set_option maxHeartbeats 1600000 in
theorem due_any (DA SA : Option Addr) (n c m sc B : Nat) (step : Int) (ds : List Dd) (l : List Sn) (w : World) (hr : Rd w B 3 DA n (ddCs ds)) (hn : n = ds.length) (hn1 : n ≤ 1000) (hg : ∀ d ∈ ds, ¬ d.bad) (hs : Rd w B 4 SA m (snCs l)) (hm : m = l.length) (hm1 : m ≤ 1000)
    (ht : ∀ s ∈ l, 0 ≤ s.st ∧ s.st ≤ 1000000) (hB : B ≤ w.heap.size) :
    Calls Try.prog 34 #[.slice DA n c, .slice SA m sc, .int .i64 step] w fun e w' => e = .returned (.int .i64 (dueC ds l step)) ∧ Below w.heap.size w w' := by
  have hbd : ∀ k, dueC ds (l.take k) step ≤ 1001000 := fun k => by
    have h1 := dueC_le ds (l.take k) step
    have h2 : (l.take k).length ≤ 1000 := by rw [List.length_take]; omega
    have h3 : (l.take k).length * (ds.length + 1) ≤ 1000 * 1001 := Nat.mul_le_mul h2 (by omega)
    omega
  have HR := Lib.hid hr
  have HN := Lib.hid hn
  have HM := Lib.hid hm
  have HS := Lib.hid hs
  have HGD := Lib.hid hg
  have HT := Lib.hid ht
  have HBD := Lib.hid hbd
  clear hr hn hg hs hm ht hbd
  go_enter Try.func34, Try.ntmps34
  go_wp2_with fail
  go_loopw [7, 13] (fun cnt v wr => ∃ (k q : Nat), k ≤ m ∧ v = .int .i64 k ∧ cnt = .int .i64 q ∧ Hid (dueC ds (l.take k) step = q) ∧ Below w.heap.size w wr) (fun _ v _ => m - (intOf v).toNat)
  case atStart => exact ⟨0, 0, Nat.zero_le _, rfl, rfl, Lib.hid (by simp [dueC, keysOf]), Below.refl _ _⟩
  case round =>
    obtain ⟨k, q, hk, rfl, rfl, HQ, hb⟩ := hrel
    have hsz := hb.size
    by_cases hlt : k < m
    · obtain ⟨s, hs⟩ : ∃ s, l[k]? = some s := ⟨_, List.getElem?_eq_getElem (by have := HM.out; omega)⟩
      have hst := HT.out s (List.mem_of_getElem? hs)
      have hq : q ≤ 1001000 := by have := HBD.out k; have := HQ.out; omega
      have hc := times_any DA SA n c m sc B k ds l s wr (HR.out.below (hb.mono hB)) HN.out hn1 HGD.out (HS.out.below (hb.mono hB)) hlt (by omega) hs hst.1 hst.2 (by omega)
      have HC := Lib.hid hc
      have HSS := Lib.hid hs
      have hnext := dueC_take ds l k s step hs
      rw [HQ.out] at hnext
      have hbn := HBD.out (k + 1)
      rw [hnext] at hbn
      have HNX := Lib.hid hnext
      have htl : (timesOf ds k s.st).length ≤ 1001 := by have := timesOf_length ds k s.st; have := HN.out; omega
      clear hc hs hst hnext HQ
      generalize timesOf ds k s.st = ts at *
      go_wp2_with fail
      refine HC.out.mono ?_
      rintro e w2 ⟨TA, tc, rfl, hown, hb2⟩
      have hrd := Rd.of_own hown
      have hbb := hb.trans (hb2.mono hsz)
      obtain ⟨tl, htl2⟩ : ∃ tl, tl = ts.length := ⟨_, rfl⟩
      rw [← htl2] at hrd htl ⊢
      have HTL := Lib.hid htl2
      clear htl2 hown hb2 hb hsz HC
      go_wp2_with fail
      go_loopw [7, 21] (fun cnt v wx => ∃ j : Nat, j ≤ tl ∧ v = .int .i64 j ∧ cnt = .int .i64 (q + gtC step (ts.take j) : Nat) ∧ wx = w2) (fun _ v _ => tl - (intOf v).toNat)
      case atStart => exact ⟨0, Nat.zero_le _, rfl, by simp [gtC], rfl⟩
      case round =>
        obtain ⟨j, hj, rfl, rfl, rfl⟩ := hrel
        have hgl : gtC step (ts.take j) ≤ 1001 := by have := gtC_le step (ts.take j); rw [List.length_take] at this; omega
        by_cases hjl : j < tl
        · obtain ⟨t, ht⟩ : ∃ t, ts[j]? = some t := ⟨_, List.getElem?_eq_getElem (by have := HTL.out; omega)⟩
          obtain ⟨tb, to, rfl, _, hcx⟩ := hrd.at1 hjl (u := .int .i64 t) (by rw [List.getElem?_map, ht]; rfl)
          have hgt := gtC_take step ts j t ht
          have HGT := Lib.hid hgt
          clear ht hgt
          generalize gtC step (ts.take j) = gj at *
          by_cases h5 : step < t
          · have hst : gtC step (ts.take (j + 1)) = gj + 1 := by rw [HGT.out, if_pos h5]
            have HST := Lib.hid hst
            clear hst
            go_wp2_with fail
            go_roundw
            case rel => exact ⟨j + 1, by omega, by go_num, by rw [HST.out]; go_num, trivial⟩
            case measure => simp [intOf]; omega
          · have hst : gtC step (ts.take (j + 1)) = gj := by rw [HGT.out, if_neg h5]; rfl
            have HST := Lib.hid hst
            clear hst
            go_wp2_with fail
            go_roundw
            case rel => exact ⟨j + 1, by omega, by go_num, by rw [HST.out], trivial⟩
            case measure => simp [intOf]; omega
        · obtain rfl : j = tl := by omega
          go_wp2_with fail
          go_roundw
          case rel => exact ⟨k + 1, q + gtC step (ts.take j), by omega, by go_num, rfl, Lib.hid (by rw [HNX.out, List.take_of_length_le (by have := HTL.out; omega)]), hbb⟩
          case measure => simp [intOf]; omega
    · obtain rfl : k = m := by omega
      go_wp2_with fail
      go_ret
      have := HQ.out
      rw [List.take_of_length_le (by have := HM.out; omega)] at this
      exact ⟨by rw [this]; rfl, hb⟩
end Go.Proofs.Ytlgcdcjfobfoiaa
