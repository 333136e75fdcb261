/-
  The contracts of delta.Back and of slices.Equal over integers. Conditions: what is read can be read, sizes within the reach.
-/
import Derived.Test.YtlgcdcjfobfoiaaDg
namespace Go.Proofs.Ytlgcdcjfobfoiaa
open Go.RowKit
set_option maxRecDepth 100000

theorem wrap64_rng (x : Int) : -9223372036854775808 ≤ wrap64 x ∧ wrap64 x ≤ 9223372036854775807 := by unfold wrap64; omega
theorem bse_rng {a : List Int} (ha : i64r a) (i : Nat) : -9223372036854775808 ≤ bse a i ∧ bse a i ≤ 9223372036854775807 := by
  unfold bse
  rcases Nat.lt_or_ge i a.length with h | h
  · have h1 : a.getD i 0 = a[i] := by simp [List.getD, List.getElem?_eq_getElem h]
    rw [h1]; exact ha _ (List.getElem_mem h)
  · have h1 : a.getD i 0 = 0 := by simp [List.getD, List.getElem?_eq_none h]
    rw [h1]; omega
theorem bdL_rng (l : List Nat) {a : List Int} (N : Nat) (ha : i64r a) : ∀ (f : Nat) (b : List Int) (p : Nat), i64r b → i64r (bdL l a N f b p).2.1 := by
  have hnil : i64r [] := fun x hx => by cases hx
  intro f
  induction f with
  | zero => intro b p hb; exact hb
  | succ f ih =>
    intro b p hb
    have hb1 : ∀ m : Nat, i64r (b ++ (List.range m).map fun j => bse a (b.length + j)) := fun m x hx => by
      rcases List.mem_append.1 hx with hx | hx
      · exact hb x hx
      · obtain ⟨j, _, rfl⟩ := List.mem_map.1 hx
        exact bse_rng ha _
    unfold bdL
    split
    · exact hb
    · split
      · exact hnil
      · split
        · exact hnil
        · split
          · exact hb1 _
          · split
            · exact hnil
            · refine ih _ _ fun x hx => ?_
              rcases List.mem_append.1 hx with hx | hx
              · exact hb1 _ x hx
              · obtain rfl := List.mem_singleton.1 hx
                exact wrap64_rng _
theorem bodyD_rng (l : List Nat) {a : List Int} (p : Nat) (ha : i64r a) : i64r (bodyD l a p).2.1 := by
  have hnil : i64r [] := fun x hx => by cases hx
  unfold bodyD
  split
  · exact hnil
  · split
    · exact hnil
    · exact bdL_rng l _ ha _ _ _ hnil

/-- What delta.Back returns. -/
def backD (a : List Int) (d : List Nat) : Int × List Int :=
  if 65536 < a.length then (2, [])
  else if 8 * d.length < 64 then (14, [])
  else if (valAt d 0 64 : Int) ≠ sumI a then (13, [])
  else if 8 * d.length < 128 then (14, [])
  else if (bodyD d a 128).1 ≠ 0 then ((bodyD d a 128).1, [])
  else if sumI (bodyD d a 128).2.1 ≠ (valAt d 64 64 : Int) then (13, [])
  else if (encB a (bodyD d a 128).2.1).length ≤ 524288 ∧ (bodyD d a 128).2.1.length ≤ 65536 ∧ packB (encB a (bodyD d a 128).2.1) = d then (0, (bodyD d a 128).2.1) else (3, [])

def BackPost (w : World) (a : List Int) (d : List Nat) (e : Ending) (w' : World) : Prop := RetS2 w 3 1 (backD a d).2.length ((backD a d).2.map (Value.int .i64)) (backD a d).1 e w'
theorem BackPost.nil {w w' : World} {a : List Int} {d : List Nat} {err : Int} (h : backD a d = (err, [])) (hb : Below w.heap.size w w') : BackPost w a d (.returned (.tuple #[.slice none 0 0, .int .i64 err])) w' := by
  unfold BackPost; rw [h]
  exact ⟨none, 0, rfl, World.ownsRow_nil _ _ _ _, hb⟩

set_option maxHeartbeats 3200000 in
theorem back_any (A A' : Option Addr) (n c n' c' B : Nat) (a : List Int) (d : List Nat) (w : World) (hr : Rd w B 1 A n (a.map (Value.int .i64))) (hr' : Rd w B 1 A' n' (bytesV d)) (hn : n = a.length) (hn' : n' = d.length) (hnc : n ≤ 9223372036854775807) (hs : n' ≤ 140737488355328) (ha : i64r a) (hb : ∀ b ∈ d, b < 256) (hB : B ≤ w.heap.size) :
    Calls Try.prog 60 #[.slice A n c, .slice A' n' c'] w (BackPost w a d) := by
  by_cases hbig : 65536 < n
  · have hD : backD a d = (2, []) := by unfold backD; rw [if_pos (by omega)]
    have HD := Lib.hid hD
    clear hr hr' hn hn' hD
    go_enter Try.func60, Try.ntmps60
    go_wp2_with fail
    go_ret2
    exact BackPost.nil HD.out (Below.refl _ _)
  have hn1 : n ≤ 65536 := by omega
  have hnew := new_any A' n' c' B d w hn' hr' hs
  have HNEW := Lib.hid hnew
  have hbd : backD a d = if 8 * d.length < 64 then (14, []) else if (valAt d 0 64 : Int) ≠ sumI a then (13, []) else if 8 * d.length < 128 then (14, []) else if (bodyD d a 128).1 ≠ 0 then ((bodyD d a 128).1, []) else if sumI (bodyD d a 128).2.1 ≠ (valAt d 64 64 : Int) then (13, [])
      else if (encB a (bodyD d a 128).2.1).length ≤ 524288 ∧ (bodyD d a 128).2.1.length ≤ 65536 ∧ packB (encB a (bodyD d a 128).2.1) = d then (0, (bodyD d a 128).2.1) else (3, []) := by unfold backD; rw [if_neg (by omega)]
  have HBD := Lib.hid hbd
  have HR := Lib.hid hr
  have HR' := Lib.hid hr'
  have HN := Lib.hid hn
  have HN' := Lib.hid hn'
  have HA := Lib.hid ha
  have HB := Lib.hid hb
  obtain ⟨D8, hD8⟩ : ∃ D8, D8 = 8 * d.length := ⟨_, rfl⟩
  have HD8 := Lib.hid hD8
  have hsd : d.length ≤ 140737488355328 := by omega
  clear hr hr' hn hn' ha hb hnew hbd hbig hnc hD8
  go_enter Try.func60, Try.ntmps60
  go_wp2_with fail
  refine HNEW.out.mono ?_
  rintro e w1 ⟨g, rfl, hg, hst1, hb1⟩
  clear HNEW
  go_wp2_with fail
  refine (get_any g w.heap.size d 0 64 w1 hst1 (by omega) (by omega) hsd HB.out).mono ?_
  rintro e w2 (⟨hf, rfl, hst2, hg2, hz2⟩ | ⟨hf, rfl, hst2, hg2, hz2⟩)
  rotate_left
  · have hb2 := hb1.trans (Gb.below hg2 hg hb1.size)
    have hD : backD a d = (14, []) := by rw [HBD.out, if_pos (by omega)]
    have HD := Lib.hid hD
    clear hD hf hg2 hz2 hst2 hst1 hb1
    go_wp2_with fail
    go_ret2
    exact BackPost.nil HD.out hb2
  have hb2 := hb1.trans (Gb.below hg2 hg hb1.size)
  have hs2 := hb2.size
  have hv0 := valAt_lt d 0 64
  have HF := Lib.hid hf
  clear hg2 hz2 hst1 hb1 hf
  obtain ⟨v0, hv0e⟩ : ∃ v0, v0 = valAt d 0 64 := ⟨_, rfl⟩
  rw [← hv0e] at hv0 ⊢
  have HV0 := Lib.hid hv0e
  clear hv0e
  have hst2' : RdrSt w2 w.heap.size g d 64 := by simpa using hst2
  clear hst2
  go_wp2_with fail
  refine (sumInts_any A n c B a w2 (HR.out.below (hb2.mono hB)) HN.out (by omega) (by omega) HA.out).mono ?_
  rintro e w3 ⟨rfl, hb3⟩
  have hst3 := hst2'.blw hb3
  have hbb3 := hb2.trans (hb3.mono hs2)
  have hs3 := hbb3.size
  clear hst2' hb3 hb2 hs2
  by_cases hsum : ((v0 : Int) != sumI a) = true
  · have hD : backD a d = (13, []) := by
      rw [HBD.out, if_neg (by have := HF.out; omega), if_pos (by rw [← HV0.out]; simpa using hsum)]
    have HD := Lib.hid hD
    clear hD
    go_wp2_with fail
    go_ret2
    exact BackPost.nil HD.out hbb3
  have hsum' : ((v0 : Int) != sumI a) = false := by simpa using hsum
  have hbd2 : backD a d = if 8 * d.length < 128 then (14, []) else if (bodyD d a 128).1 ≠ 0 then ((bodyD d a 128).1, []) else if sumI (bodyD d a 128).2.1 ≠ (valAt d 64 64 : Int) then (13, [])
      else if (encB a (bodyD d a 128).2.1).length ≤ 524288 ∧ (bodyD d a 128).2.1.length ≤ 65536 ∧ packB (encB a (bodyD d a 128).2.1) = d then (0, (bodyD d a 128).2.1) else (3, []) := by
    rw [HBD.out, if_neg (by have := HF.out; omega), if_neg (by rw [← HV0.out]; simpa using hsum)]
  have HBD2 := Lib.hid hbd2
  clear hbd2 hsum HBD
  go_wp2_with fail
  refine (get_any g w.heap.size d 64 64 w3 hst3 (by have := HF.out; omega) (by omega) hsd HB.out).mono ?_
  rintro e w4 (⟨hf, rfl, hst4, hg4, hz4⟩ | ⟨hf, rfl, hst4, hg4, hz4⟩)
  rotate_left
  · have hb4 := hbb3.trans (Gb.below hg4 hg hs3)
    have hD : backD a d = (14, []) := by rw [HBD2.out, if_pos (by omega)]
    have HD := Lib.hid hD
    clear hD hf hg4 hz4 hst4 hst3
    go_wp2_with fail
    go_ret2
    exact BackPost.nil HD.out hb4
  have hb4 := hbb3.trans (Gb.below hg4 hg hs3)
  have hs4 := hb4.size
  have hv1 := valAt_lt d 64 64
  have HF2 := Lib.hid hf
  clear hg4 hz4 hst3 hbb3 hs3 hf
  obtain ⟨v1, hv1e⟩ : ∃ v1, v1 = valAt d 64 64 := ⟨_, rfl⟩
  rw [← hv1e] at hv1 ⊢
  have HV1 := Lib.hid hv1e
  clear hv1e
  have hbody := body_any g w.heap.size 128 d A n c B a w4 hst4 (by have := HF2.out; omega) hsd HB.out hg (HR.out.below (hb4.mono hB)) HN.out hn1 hB
  have HBODY := Lib.hid hbody
  clear hbody hst4
  go_wp2_with fail
  refine HBODY.out.mono ?_
  rintro e w5 ⟨A5, c5, rfl, hown5, hst5, _, hb5, hbl⟩
  have hrng := bodyD_rng d 128 HA.out
  have hbd3 : backD a d = if (bodyD d a 128).1 ≠ 0 then ((bodyD d a 128).1, []) else if sumI (bodyD d a 128).2.1 ≠ (v1 : Int) then (13, [])
      else if (encB a (bodyD d a 128).2.1).length ≤ 524288 ∧ (bodyD d a 128).2.1.length ≤ 65536 ∧ packB (encB a (bodyD d a 128).2.1) = d then (0, (bodyD d a 128).2.1) else (3, []) := by
    rw [HBD2.out, if_neg (by have := HF2.out; omega), HV1.out]
  generalize bodyD d a 128 = r at *
  obtain ⟨err, b, q⟩ := r
  simp only at hown5 hbl hrng hbd3 ⊢
  have hbb5 := hb4.trans hb5
  have hs5 := hbb5.size
  have HBD3 := Lib.hid hbd3
  have HRNG := Lib.hid hrng
  clear hb4 hb5 hst5 HBD2 hbd3 hrng HBODY
  by_cases herr : (err != 0) = true
  · have hD : backD a d = (err, []) := by rw [HBD3.out, if_pos (by simpa using herr)]
    have HD := Lib.hid hD
    clear hD
    go_wp2_with fail
    go_ret2
    exact BackPost.nil HD.out hbb5
  have herr' : (err != 0) = false := by simpa using herr
  obtain ⟨m, hm⟩ : ∃ m, m = b.length := ⟨_, rfl⟩
  rw [← hm] at hown5 hbl ⊢
  have HM := Lib.hid hm
  have hbR : Rd w5 w5.heap.size 1 A5 m (b.map (Value.int .i64)) := Rd.of_own hown5
  have HBD4 : Hid (backD a d = if sumI b ≠ (v1 : Int) then (13, []) else if (encB a b).length ≤ 524288 ∧ b.length ≤ 65536 ∧ packB (encB a b) = d then (0, b) else (3, [])) := Lib.hid (by rw [HBD3.out, if_neg (by simpa using herr)])
  have HOWN5 := Lib.hid hown5
  clear herr HBD3 hm hown5
  go_wp2_with fail
  refine (sumInts_any A5 m c5 w5.heap.size b w5 hbR HM.out (by omega) (Nat.le_refl _) HRNG.out).mono ?_
  rintro e w6 ⟨rfl, hb6⟩
  have hbb6 := hbb5.trans (hb6.mono hs5)
  have hs6 := hbb6.size
  have hbR6 := hbR.below hb6
  have hown6 := own_keep HOWN5.out hb6
  have hs56 := hb6.size
  by_cases hsum2 : (sumI b != (v1 : Int)) = true
  · have hD : backD a d = (13, []) := by rw [HBD4.out, if_pos (by simpa using hsum2)]
    have HD := Lib.hid hD
    clear hD hbR hb6 hbR6 hown6
    go_wp2_with fail
    go_ret2
    exact BackPost.nil HD.out hbb6
  have hsum2' : (sumI b != (v1 : Int)) = false := by simpa using hsum2
  have HBD5 : Hid (backD a d = if (encB a b).length ≤ 524288 ∧ b.length ≤ 65536 ∧ packB (encB a b) = d then (0, b) else (3, [])) := Lib.hid (by rw [HBD4.out, if_neg (by simpa using hsum2)])
  have hints := ints_any A A5 n c m c5 w6.heap.size a b w6 ((HR.out.below (hbb6.mono hB)).more (by omega)) (hbR6.more (by omega)) HN.out HM.out ⟨by omega, by omega⟩ HA.out HRNG.out (Nat.le_refl _)
  have HINTS := Lib.hid hints
  clear hsum2 HBD4 hints hbR hbR6 hb6 HOWN5
  go_wp2_with fail
  refine HINTS.out.mono ?_
  rintro e w7 (⟨hok, A7, c7, rfl, hown7, hb7⟩ | ⟨hno, A7, c7, rfl, hown7, hb7⟩)
  rotate_left
  · have hD : backD a d = (3, []) := by
      rw [HBD5.out, if_neg]
      rintro ⟨h1, h2, _⟩
      exact hno ⟨by have := HN.out; omega, h2, h1⟩
    have HD := Lib.hid hD
    have hbb7 := hbb6.trans (hb7.mono hs6)
    clear hD hno hown7 hb7 hown6 HINTS
    go_wp2_with fail
    go_ret2
    exact BackPost.nil HD.out hbb7
  have hbb7 := hbb6.trans (hb7.mono hs6)
  have hs7 := hbb7.size
  have hown8 := own_keep hown6 hb7
  have hPl := packB_lt (encB a b)
  have heq := bytesEqual_any A7 A' (packB (encB a b)).length c7 n' c' w7.heap.size (packB (encB a b)) d w7 hPl.1 HB.out (Rd.of_own hown7) ((HR'.out.below (hbb7.mono hB)).more (by omega))
  obtain ⟨dB, hdB⟩ : ∃ dB : Bool, decide (packB (encB a b) = d) = dB := ⟨_, rfl⟩
  rw [hdB] at heq
  have HEQ := Lib.hid heq
  have HDB := Lib.hid hdB
  have HOK := Lib.hid hok
  have HO8 := Lib.hid hown8
  clear heq hdB hok hown7 hb7 hown6 HINTS hPl hown8
  generalize (packB (encB a b)).length = PL at *
  go_wp2_with fail
  refine HEQ.out.mono ?_
  rintro e w8 ⟨rfl, rfl⟩
  cases dB with
  | false =>
    have hD : backD a d = (3, []) := by
      rw [HBD5.out, if_neg]
      rintro ⟨_, _, h⟩
      exact absurd h (of_decide_eq_false HDB.out)
    have HD := Lib.hid hD
    clear hD
    go_wp2_with fail
    go_ret2
    exact BackPost.nil HD.out hbb7
  | true =>
    have hD : backD a d = (0, b) := by
      rw [HBD5.out, if_pos ⟨HOK.out.2.2, HOK.out.2.1, of_decide_eq_true HDB.out⟩]
    have HD := Lib.hid hD
    clear hD
    go_wp2_with fail
    go_ret2
    unfold BackPost
    rw [HD.out]
    have h1 := HM.out
    refine ⟨A5, c5, by rw [← h1]; rfl, ?_, hbb7⟩
    show World.ownsRow _ _ _ _ (.slice A5 b.length c5) b.length _
    rw [← h1]
    exact own_mono HO8.out (by omega)
end Go.Proofs.Ytlgcdcjfobfoiaa
