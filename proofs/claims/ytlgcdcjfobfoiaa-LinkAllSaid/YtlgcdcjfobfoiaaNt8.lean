/-
  What all packets' deeds make of them: plain lemmas. The fact 'arrives'. No condition.
-/
import Derived.Test.YtlgcdcjfobfoiaaNt7
namespace Go.Proofs.Ytlgcdcjfobfoiaa
open Go.RowKit
set_option maxRecDepth 100000

theorem arrives_close {fs fl : List Fl} {sent fr to : Int} {dat : List Int} (hA : Adds fl [] fs) (hk : fl.map Fl.key = (timesOf [] sent 0).map fun t => (t, sent, fr, to, dat)) : fs.length = 1 ∧ ∀ f ∈ fs, f.due = 1 := by
  have h1 : timesOf [] sent 0 = [1] := by simp [timesOf, lostB, lateOf, copOf]
  rw [h1] at hk
  have hl : fl.length = 1 := by have := congrArg List.length hk; simpa using this
  have hlen := hA.2.1
  refine ⟨by simp at hlen; omega, fun f hf => ?_⟩
  have hm : f ∈ fl := by have := hA.2.2.mem_iff.1 hf; simpa using this
  have : f.key ∈ fl.map Fl.key := List.mem_map_of_mem hm
  rw [hk] at this
  simp [Fl.key] at this
  exact this.1
theorem step_all {fs l rest : List Fl} (hf : fs = l ++ rest) (hd : ∀ f ∈ fs, f.due = 1) (hr : ∀ f, rest[0]? = some f → (0 : Int) + 1 < f.due) : rest = [] := by
  cases rest with
  | nil => rfl
  | cons f r =>
    have h1 := hr f rfl
    have h2 := hd f (by rw [hf]; simp)
    omega

set_option maxHeartbeats 1600000 in
theorem arrives_any (w : World) : Calls Try.prog 24 #[] w fun e w' => e = .returned (.bool true) ∧ Below w.heap.size w w' := by
  have hnew := netNew_any 2 none 0 0 w.heap.size [] w (Rd.nil_ _) rfl (Nat.le_refl _) (by unfold maxLen; omega) (Nat.le_refl _)
  have HNEW := Lib.hid hnew
  clear hnew
  go_enter Try.func24, Try.ntmps24
  go_wp2_with fail
  refine HNEW.out.mono ?_
  rintro e w1 ⟨hb1, ⟨h0, _⟩ | ⟨_, g, rfl, hN⟩⟩
  · exact absurd (show newErr 2 [] = 0 by simp [newErr]) h0
  have hg := hN.lt
  have hgb := hN.base
  have hsz := hb1.size
  have hN2 := hN.below ((Below.refl _ _).alloc (Nat.le_refl _) (.cells #[.int .u8 7] 5))
  have hb2 := hb1.alloc hb1.size (.cells #[.int .u8 7] 5)
  have hd2 : Tr (w1.alloc (.cells #[.int .u8 7] 5)) 5 1 (some ⟨w1.heap.size, 0, none⟩) 1 (([7] : List Int).map (Value.int .u8)) :=
    ⟨rfl, fun _ => ⟨w1.heap.size, 0, #[.int .u8 7], rfl, Bk.new _ _ _, fun j u hu => by rw [Nat.zero_add, ← Array.getElem?_toList]; exact hu⟩⟩
  have hs := netSend_any w.heap.size g 2 0 0 0 1 (some ⟨w1.heap.size, 0, none⟩) 1 1 [7] [] [] _ hN2 (Nat.le_refl _) (by unfold maxLen; omega) hd2 (by simp [sendErr]) (by omega) (by omega) (by omega) (by omega) (by simp) hb2.size
  have HS := Lib.hid hs
  clear hs hN
  go_wp2_with fail
  refine HS.out.mono ?_
  rintro e w3 ⟨rfl, fs, fl, hA, hk, hN3, hK3⟩
  obtain ⟨hl, hd⟩ := arrives_close hA hk
  have hst := netStep_any w.heap.size g 2 0 (0 + 1) [] fs w3 hN3 (by omega) (by omega) (by omega)
  have HST := Lib.hid hst
  clear hst hA hk
  go_wp2_with fail
  refine HST.out.mono ?_
  rintro e w4 ⟨l, rest, A4, c4, hf, _, hr, rfl, hown, hN4, hK4, _⟩
  obtain rfl := step_all hf hd hr
  have hl1 : l.length = 1 := by rw [hf] at hl; simpa using hl
  rw [hl1]
  clear hl hl1 hf hr hd HST HS HNEW hown hN4 hN3
  go_wp2_with fail
  go_ret
  exact ⟨rfl, hb2.trans ((hK3.trans hK4).below hb2.size)⟩

/-! ### all packets -/
def pktOf (ds : List Dd) (i : Nat) : List (Int × Int × Int × Int × List Int) := (timesOf ds i 0).map fun t => (t, (i : Int), (i : Int) % 3, ((i : Int) + 1) % 3, [(i : Int)])
def pkts (ds : List Dd) (N : Nat) : List (Int × Int × Int × Int × List Int) := (List.range N).flatMap (pktOf ds)
theorem pkts_succ (ds : List Dd) (N : Nat) : pkts ds (N + 1) = pkts ds N ++ pktOf ds N := by
  unfold pkts; rw [List.range_succ, List.flatMap_append]; simp
def AllFl (ds : List Dd) (N : Nat) (fs : List Fl) : Prop := (fs.map Fl.key).Perm (pkts ds N)
theorem AllFl.zero (ds : List Dd) : AllFl ds 0 [] := List.Perm.refl _
theorem AllFl.add {ds : List Dd} {N : Nat} {fs fl fs' : List Fl} (h : AllFl ds N fs) (hA : Adds fl fs fs') (hk : fl.map Fl.key = (timesOf ds N 0).map fun t => (t, (N : Int), (N : Int) % 3, ((N : Int) + 1) % 3, [(N : Int)])) : AllFl ds (N + 1) fs' := by
  unfold AllFl at h ⊢
  have h1 : (fs'.map Fl.key).Perm ((fs ++ fl).map Fl.key) := hA.2.2.map _
  rw [List.map_append, hk] at h1
  rw [pkts_succ]
  exact h1.trans (h.append_right _)
theorem AllFl.length {ds : List Dd} {N : Nat} {fs : List Fl} (h : AllFl ds N fs) : fs.length ≤ N * (ds.length + 1) := by
  have h1 := h.length_eq
  rw [List.length_map] at h1
  rw [h1]
  clear h1 h
  induction N with
  | zero => simp [pkts]
  | succ N ih =>
    rw [pkts_succ, List.length_append, Nat.add_mul]
    have : (pktOf ds N).length ≤ ds.length + 1 := by unfold pktOf; rw [List.length_map]; exact timesOf_length _ _ _
    omega
theorem timesOf_bd (ds : List Dd) (i now : Int) (h : ∀ d ∈ ds, ¬ d.bad) : ∀ t ∈ timesOf ds i now, now + 1 ≤ t ∧ t ≤ now + 1 + 50 * ds.length + 50 := by
  intro t ht
  have hL := lateOf_bd ds i h
  unfold timesOf at ht
  split at ht
  · cases ht
  · rcases List.mem_cons.1 ht with rfl | ht
    · omega
    · obtain ⟨c, hc, rfl⟩ := List.mem_map.1 ht
      have := copOf_bd ds i h c hc
      omega
theorem AllFl.mem {ds : List Dd} {N : Nat} {fs : List Fl} (h : AllFl ds N fs) (hg : ∀ d ∈ ds, ¬ d.bad) (f : Fl) (hf : f ∈ fs) :
    ∃ i : Nat, i < N ∧ f.num = i ∧ f.fr = (i : Int) % 3 ∧ f.to = ((i : Int) + 1) % 3 ∧ f.dat = [(i : Int)] ∧ 1 ≤ f.due ∧ f.due ≤ 51 + 50 * ds.length := by
  have h1 : f.key ∈ pkts ds N := h.mem_iff.1 (List.mem_map_of_mem hf)
  obtain ⟨i, hi, hm⟩ := List.mem_flatMap.1 h1
  obtain ⟨t, ht, he⟩ := List.mem_map.1 hm
  have hb := timesOf_bd ds i 0 hg t ht
  simp only [Fl.key, Prod.mk.injEq] at he
  obtain ⟨e1, e2, e3, e4, e5⟩ := he
  exact ⟨i, List.mem_range.1 hi, e2.symm, e3.symm, e4.symm, e5.symm, by omega, by omega⟩
def cnt (i : Nat) (l : List Fl) : Nat := l.countP fun f => f.num == (i : Int)
theorem cnt_append (i : Nat) (a b : List Fl) : cnt i (a ++ b) = cnt i a + cnt i b := List.countP_append
theorem AllFl.cnt {ds : List Dd} {N : Nat} {fs : List Fl} (h : AllFl ds N fs) (i : Nat) (hi : i < N) : cnt i fs = (timesOf ds i 0).length := by
  have h1 : Ytlgcdcjfobfoiaa.cnt i fs = (fs.map Fl.key).countP fun k => k.2.1 == (i : Int) := by
    unfold Ytlgcdcjfobfoiaa.cnt; rw [List.countP_map]; rfl
  rw [h1, h.countP_eq]
  clear h1 h
  have hone : ∀ j : Nat, (pktOf ds j).countP (fun k => k.2.1 == (i : Int)) = if j = i then (timesOf ds i 0).length else 0 := by
    intro j
    unfold pktOf
    rw [List.countP_map]
    by_cases hj : j = i
    · subst hj
      simp only [if_true]
      rw [List.countP_eq_length.2 (by intro a _; simp)]
    · rw [if_neg hj]
      rw [List.countP_eq_zero]
      intro a _
      simp; omega
  induction N with
  | zero => omega
  | succ N ih =>
    rw [pkts_succ, List.countP_append, hone]
    by_cases hN : N = i
    · subst hN
      rw [if_pos rfl]
      have h0 : ∀ M, M ≤ N → (pkts ds M).countP (fun k => k.2.1 == (N : Int)) = 0 := by
        intro M hM
        induction M with
        | zero => simp [pkts]
        | succ M ihM => rw [pkts_succ, List.countP_append, hone, if_neg (by omega), ihM (by omega)]
      rw [h0 N (Nat.le_refl _)]; omega
    · rw [if_neg hN, ih (by omega), Nat.add_zero]

/-- The counts as a block's cells. -/
def cntA (N : Nat) (l : List Fl) : Array Value := ((List.range N).map fun i => Value.int .i64 (cnt i l : Nat)).toArray
theorem cntA_get (N : Nat) (l : List Fl) (i : Nat) (hi : i < N) : (cntA N l)[i]? = some (.int .i64 (cnt i l : Nat)) := by
  simp [cntA, hi]
theorem cntA_add (N : Nat) (l : List Fl) (f : Fl) (d : Nat) (hd : f.num = d) : (cntA N l).setIfInBounds d (.int .i64 ((cnt d l : Nat) + 1)) = cntA N (l ++ [f]) := by
  apply Array.ext'
  simp only [cntA, List.setIfInBounds_toArray]
  apply List.ext_getElem?
  intro j
  rw [List.getElem?_set]
  by_cases hj : j < N
  · simp only [List.length_map, List.length_range, hj]
    by_cases hdj : d = j
    · subst hdj
      simp [hj, cnt_append, cnt, hd]
    · rw [if_neg hdj]
      have : ¬ ((d : Int) = (j : Int)) := by omega
      simp [hj, cnt_append, cnt, hd, this]
  · have h1 : ((List.range N).map fun i => Value.int .i64 (cnt i l : Nat))[j]? = none := by simp; omega
    have h2 : ((List.range N).map fun i => Value.int .i64 (cnt i (l ++ [f]) : Nat))[j]? = none := by simp; omega
    rw [h1, h2]
    split
    · rename_i h; subst h; simp; omega
    · rfl
theorem timesOf_count (ds : List Dd) (i : Int) : (timesOf ds i 0).length = if lostB ds i then 0 else 1 + (copOf ds i).length := by
  unfold timesOf
  split <;> simp; omega

end Go.Proofs.Ytlgcdcjfobfoiaa
