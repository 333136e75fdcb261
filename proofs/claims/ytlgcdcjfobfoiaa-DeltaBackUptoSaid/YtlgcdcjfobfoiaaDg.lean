/-
  The contract of delta.body. Conditions: a reader in memory, sizes within the reach.
-/
import Derived.Test.YtlgcdcjfobfoiaaDf
namespace Go.Proofs.Ytlgcdcjfobfoiaa
open Go.RowKit
set_option maxRecDepth 100000

def bdL (l : List Nat) (a : List Int) (N : Nat) : Nat → List Int → Nat → Int × List Int × Nat
  | 0, b, p => (0, b, p)
  | f + 1, b, p =>
    if ¬ b.length < N then (0, b, p)
    else if (rdNat l p).1 ≠ 0 then ((rdNat l p).1, [], (rdNat l p).2.2)
    else if N - b.length < (rdNat l p).2.1 then (3, [], (rdNat l p).2.2)
    else if b.length + (rdNat l p).2.1 = N then (0, b ++ (List.range (rdNat l p).2.1).map fun j => bse a (b.length + j), (rdNat l p).2.2)
    else if (rdNat l (rdNat l p).2.2).1 ≠ 0 then ((rdNat l (rdNat l p).2.2).1, [], (rdNat l (rdNat l p).2.2).2.2)
    else bdL l a N f ((b ++ (List.range (rdNat l p).2.1).map fun j => bse a (b.length + j)) ++ [wrap64 (bse a (b.length + (rdNat l p).2.1) + zag (rdNat l (rdNat l p).2.2).2.1)]) (rdNat l (rdNat l p).2.2).2.2
def bodyD (l : List Nat) (a : List Int) (p : Nat) : Int × List Int × Nat :=
  if (rdNat l p).1 ≠ 0 then ((rdNat l p).1, [], (rdNat l p).2.2)
  else if 65536 < (rdNat l p).2.1 then (2, [], (rdNat l p).2.2)
  else bdL l a (rdNat l p).2.1 ((rdNat l p).2.1 + 1) [] (rdNat l p).2.2

def BodyPost (w : World) (base g : Nat) (l : List Nat) (a : List Int) (p : Nat) (e : Ending) (w' : World) : Prop :=
  ∃ A c, e = .returned (.tuple #[.slice A (bodyD l a p).2.1.length c, .int .i64 (bodyD l a p).1]) ∧ w'.ownsRow w.heap.size 3 1 (.slice A (bodyD l a p).2.1.length c) (bodyD l a p).2.1.length ((bodyD l a p).2.1.map (Value.int .i64)) ∧
    RdrSt w' base g l (bodyD l a p).2.2 ∧ (bodyD l a p).2.2 ≤ 8 * l.length ∧ Below base w w' ∧ (bodyD l a p).2.1.length ≤ 65536

theorem RdrSt.blw {w w' : World} {base g p : Nat} {l : List Nat} (h : RdrSt w base g l p) (hb : Below w.heap.size w w') : RdrSt w' base g l p := by
  obtain ⟨A, c, h1, h2, h3⟩ := h
  exact ⟨A, c, h1.below hb h1.lt, own_keep h2 hb, by have := hb.size; omega⟩
theorem RdrSt.grown3 {w w' : World} {base g p b0 n : Nat} {l : List Nat} {v : Value} {xs : List Value} (h : RdrSt w base g l p) (ho : w.ownsRow b0 3 1 v n xs) (hg : w.grownBy w' v.ownBlock) : RdrSt w' base g l p := by
  obtain ⟨A, c, h1, h2, h3⟩ := h
  refine ⟨A, c, h1.grown hg (fun e => own_ne ho h1 (by decide) e.symm), h2.kept hg ?_, by have := hg.size; omega⟩
  rcases h2.2 with ⟨hv, _⟩ | ⟨g', cap, cur, hv, _, hh, _⟩
  · left; rw [hv]; rfl
  · right
    rw [hv]
    intro e
    exact own_ne ho (show Bk w g' 5 cur from hh) (by decide) e.symm
theorem RdrSt.b144 {w : World} {base g p : Nat} {l : List Nat} (h : RdrSt w base g l p) : ∃ cs, Bk w g 144 cs := by obtain ⟨A, c, h1, _⟩ := h; exact ⟨_, h1⟩
theorem own_rdr {w w' : World} {base g p b0 n : Nat} {l : List Nat} {v : Value} {xs : List Value} (ho : w.ownsRow b0 3 1 v n xs) (h : RdrSt w base g l p) (hg : w.grownBy w' (some g)) : w'.ownsRow b0 3 1 v n xs := by
  obtain ⟨cs, hk⟩ := h.b144
  exact ho.kept hg (.inr (own_ne ho hk (by decide)))
theorem range_snoc_map (f : Nat → Int) (t : Nat) : (List.range (t + 1)).map f = (List.range t).map f ++ [f t] := by rw [List.range_succ, List.map_append]; rfl

set_option maxHeartbeats 3200000 in
theorem body_any (g base p : Nat) (l : List Nat) (A : Option Addr) (n c B : Nat) (a : List Int) (w : World) (hst : RdrSt w base g l p) (hp : p ≤ 8 * l.length) (hs : l.length ≤ 140737488355328) (hb : ∀ b ∈ l, b < 256) (hbg : base ≤ g)
    (hr : Rd w B 1 A n (a.map (Value.int .i64))) (hn : n = a.length) (hn1 : n ≤ 65536) (hB : B ≤ base) :
    Calls Try.prog 90 #[.pointer (some ⟨g, 0, none⟩), .slice A n c] w (BodyPost w base g l a p) := by
  obtain ⟨i3, hi3, hy0, hy1, hy2⟩ := info_parts T.info3
  have hbw : base ≤ w.heap.size := by obtain ⟨_, _, _, _, h⟩ := hst; exact h
  have HR := Lib.hid hr
  have HN := Lib.hid hn
  have HB := Lib.hid hb
  have hn0 := rnat_any g base l p w hst hp hs hb
  have HN0 := Lib.hid hn0
  obtain ⟨⟨err, N, q⟩, hrd⟩ : ∃ r, r = rdNat l p := ⟨_, rfl⟩
  have herr : err = 0 ∨ err = 3 ∨ err = 14 := by have := rdN_err l p 17 0 0 p; rw [show rdN l p 17 0 0 p = rdNat l p from rfl, ← hrd] at this; exact this
  have hNlt : N ≤ 18446744073709551615 := by have := rdNat_lt l p; rw [← hrd] at this; simp only at this; omega
  have hbd : bodyD l a p = if err ≠ 0 then (err, [], q) else if 65536 < N then (2, [], q) else bdL l a N (N + 1) [] q := by unfold bodyD; rw [← hrd]
  have HRD := Lib.hid hrd
  have HBD := Lib.hid hbd
  clear hr hn hb hn0 hrd hbd hst
  go_enter Try.func90, Try.ntmps90
  go_wp2_with fail
  refine HN0.out.mono ?_
  rintro e w1 ⟨rfl, hst1, hq, hg1, hz1⟩
  rw [← HRD.out] at hst1 hq ⊢
  simp only at hst1 hq ⊢
  have hb1 := Gb.below hg1 hbg hbw
  have HZ1 := Lib.hid hz1
  clear hg1 hz1 HN0
  by_cases hbad : err = 0 ∧ N ≤ 65536
  rotate_left
  · have hcase : (err = 3 ∨ err = 14) ∨ (err = 0 ∧ 65536 < N) := by
      rcases herr with h | h | h
      · right; exact ⟨h, by rcases Nat.lt_or_ge 65536 N with h2 | h2
                            · exact h2
                            · exact absurd ⟨h, h2⟩ hbad⟩
      · left; left; exact h
      · left; right; exact h
    clear hbad herr
    rcases hcase with (rfl | rfl) | ⟨rfl, hN⟩
    all_goals
      go_wp2_with fail
      go_ret2
      have hD := HBD.out
      first | rw [if_pos (by decide)] at hD | rw [if_neg (by decide), if_pos hN] at hD
      unfold BodyPost
      rw [hD]
      exact ⟨none, 0, rfl, World.ownsRow_nil _ _ _ _, hst1, hq, hb1, by simp⟩
  obtain ⟨rfl, hN⟩ := hbad
  have hD : bodyD l a p = bdL l a N (N + 1) [] q := by rw [HBD.out, if_neg (by decide), if_neg (by omega)]
  have HD := Lib.hid hD
  have hsz1 : w.heap.size ≤ w1.heap.size := by have := HZ1.out; omega
  clear hD HBD herr
  go_wp2_with fail
  go_loopw [8] (fun out wr => ∃ (f : Nat) (b : List Int) (P : Nat) (OA : Option Addr) (oc m : Nat), Hid (m = b.length) ∧ m ≤ N ∧ out = .slice OA m oc ∧ N + 1 ≤ f + m ∧ Hid (bodyD l a p = bdL l a N f b P) ∧ P ≤ 8 * l.length ∧ RdrSt wr base g l P ∧ wr.ownsRow w.heap.size 3 1 (.slice OA m oc) m (b.map (Value.int .i64)) ∧ Below base w wr ∧ w.heap.size ≤ wr.heap.size) (fun out _ => N - sliceLen out)
  case atStart => exact ⟨N + 1, [], q, none, 0, 0, Lib.hid rfl, Nat.zero_le _, rfl, by omega, HD, hq, hst1, World.ownsRow_nil _ _ _ _, hb1, hsz1⟩
  case round =>
    obtain ⟨f, b, P, OA, oc, m, HM, hm, rfl, hf, HE, hP, hst, hown, hbel, hsz⟩ := hrel
    clear hst1 hb1 hsz1 hq HD
    by_cases hlt : m < N
    rotate_left
    · obtain rfl : m = N := by omega
      obtain ⟨f', rfl⟩ : ∃ f', f = f' + 1 := ⟨f - 1, by omega⟩
      have hfin : bodyD l a p = (0, b, P) := by rw [HE.out, bdL, if_pos (by have := HM.out; omega)]
      have HF := Lib.hid hfin
      clear hfin
      go_wp2_with fail
      go_ret2
      unfold BodyPost
      rw [HF.out]
      have := HM.out
      subst this
      exact ⟨OA, oc, rfl, hown, hst, hP, hbel, by omega⟩
    obtain ⟨f', rfl⟩ : ∃ f', f = f' + 1 := ⟨f - 1, by omega⟩
    have hn2 := rnat_any g base l P wr hst hP hs HB.out
    have HN2 := Lib.hid hn2
    obtain ⟨⟨err, S, q1⟩, hrd2⟩ : ∃ r, r = rdNat l P := ⟨_, rfl⟩
    have herr : err = 0 ∨ err = 3 ∨ err = 14 := by have := rdN_err l P 17 0 0 P; rw [show rdN l P 17 0 0 P = rdNat l P from rfl, ← hrd2] at this; exact this
    have hSlt : S ≤ 18446744073709551615 := by have := rdNat_lt l P; rw [← hrd2] at this; simp only at this; omega
    have hbd : bodyD l a p = if err ≠ 0 then (err, [], q1) else if N - m < S then (3, [], q1) else if m + S = N then (0, b ++ (List.range S).map fun j => bse a (m + j), q1)
        else if (rdNat l q1).1 ≠ 0 then ((rdNat l q1).1, [], (rdNat l q1).2.2) else bdL l a N f' ((b ++ (List.range S).map fun j => bse a (m + j)) ++ [wrap64 (bse a (m + S) + zag (rdNat l q1).2.1)]) (rdNat l q1).2.2 := by
      rw [HE.out, bdL, if_neg (by have := HM.out; omega), ← hrd2, ← HM.out]
    have HRD2 := Lib.hid hrd2
    have HBD := Lib.hid hbd
    clear hn2 hrd2 hbd
    go_wp2_with fail
    refine HN2.out.mono ?_
    rintro e w2 ⟨rfl, hst2, hq1, hg2, hz2⟩
    rw [← HRD2.out] at hst2 hq1 ⊢
    simp only at hst2 hq1 ⊢
    have hown2 := own_rdr hown hst hg2
    have hbel2 := hbel.trans (Gb.below hg2 hbg (by omega))
    have hsz2 : w.heap.size ≤ w2.heap.size := by omega
    clear hg2 hz2 HN2 hst hown hbel hsz
    rcases herr with rfl | rfl | rfl
    rotate_left
    · go_wp2_with fail
      go_ret2
      have hD := HBD.out
      rw [if_pos (by decide)] at hD
      unfold BodyPost
      rw [hD]
      exact ⟨none, 0, rfl, World.ownsRow_nil _ _ _ _, hst2, hq1, hbel2, by simp⟩
    · go_wp2_with fail
      go_ret2
      have hD := HBD.out
      rw [if_pos (by decide)] at hD
      unfold BodyPost
      rw [hD]
      exact ⟨none, 0, rfl, World.ownsRow_nil _ _ _ _, hst2, hq1, hbel2, by simp⟩
    by_cases hS : N - m < S
    · have hS' : (N : Int) - m < S := by omega
      go_wp2_with fail
      go_ret2
      have hD := HBD.out
      rw [if_neg (by decide), if_pos hS] at hD
      unfold BodyPost
      rw [hD]
      exact ⟨none, 0, rfl, World.ownsRow_nil _ _ _ _, hst2, hq1, hbel2, by simp⟩
    have hS' : (S : Int) ≤ N - m := by omega
    have hS2 : m + S ≤ N := by omega
    go_wp2_with fail
    go_loopw [8, 43] (fun out v wr => ∃ (t M : Nat) (OA2 : Option Addr) (oc2 : Nat), t ≤ S ∧ Hid (M = m + t) ∧ M ≤ N ∧ v = .int .u64 t ∧ out = .slice OA2 M oc2 ∧ wr.ownsRow w.heap.size 3 1 (.slice OA2 M oc2) M ((b ++ (List.range t).map fun j => bse a (m + j)).map (Value.int .i64)) ∧ RdrSt wr base g l q1 ∧ Below base w wr ∧ w.heap.size ≤ wr.heap.size) (fun _ v _ => S - (intOf v).toNat)
    case atStart => exact ⟨0, m, OA, oc, Nat.zero_le _, Lib.hid rfl, hm, rfl, rfl, by simpa using hown2, hst2, hbel2, hsz2⟩
    case round =>
      obtain ⟨t, M, OA2, oc2, ht, HMM, hMN, rfl, rfl, hown3, hst3, hbel3, hsz3⟩ := hrel
      clear hown2 hst2 hbel2 hsz2
      by_cases htS : t < S
      · have hba := base_any A n c B M a wr (HR.out.below (hbel3.mono hB)) HN.out (by omega) (by omega)
        have HBA := Lib.hid hba
        obtain ⟨y, hy⟩ : ∃ y, y = bse a M := ⟨_, rfl⟩
        rw [← hy] at hba
        replace HBA := Lib.hid hba
        have HY := Lib.hid hy
        clear hba hy
        go_wp2_with fail
        refine HBA.out.mono ?_
        rintro e w4 ⟨rfl, rfl⟩
        go_wp2_with
          (at_builtin
           go_must (refine wpList_append_one _ rfl (.tmp 45) (.tmp 50) _ rfl w.heap.size 3 i3 (.int .i64 0) 1 8 Try.underlying41 hi3 hy0 hy1 hy2 rfl (by decide) (.slice OA2 M oc2) M _ rfl (hown3.alloc _) wr.heap.size 1 3 #[.int .i64 y] rfl (Bk.new _ _ _) rfl ?c1 (M + 1) rfl ?c2 ?c3 ?c4 ?_)
           case c1 => simp [Value.oneCell']
           case c2 => unfold maxLen; omega
           case c3 => omega
           case c4 => simp; omega
           intro g5 cc5 w5 hown5 hg5 hat5
           have hst5 := (hst3.blw ((Below.refl _ _).alloc (Nat.le_refl _) (.cells #[.int .i64 y] 3))).grown3 (hown3.alloc _) hg5
           have hbel5 := (hbel3.alloc (by omega) (.cells #[.int .i64 y] 3)).grown hg5 (by simp; omega) (fun q hq => by have := (hown3.lt q hq).1; omega)
           have hsz5 : w.heap.size ≤ w5.heap.size := by have := hg5.size; simp at this; omega
           have HO5 : Hid (w5.ownsRow w.heap.size 3 1 (.slice (some ⟨g5, 0, none⟩) (M + 1) cc5) (M + 1) ((b ++ (List.range (t + 1)).map fun j => bse a (m + j)).map (Value.int .i64))) := Lib.hid (by
             rw [range_snoc_map, ← List.append_assoc, List.map_append, ← HMM.out, ← HY.out]
             exact hown5)
           clear hown5 hg5 hat5)
        go_roundw
        case rel => exact ⟨t + 1, M + 1, some ⟨g5, 0, none⟩, cc5, by omega, Lib.hid (by have := HMM.out; omega), by have := HMM.out; omega, by go_num, rfl, HO5.out, hst5, hbel5, hsz5⟩
        case measure => simp [intOf]; omega
      · obtain rfl : t = S := by omega
        by_cases hend : M = N
        · subst hend
          have hD := HBD.out
          rw [if_neg (by decide), if_neg hS, if_pos HMM.out.symm] at hD
          have HD := Lib.hid hD
          clear hD
          go_wp2_with fail
          go_ret2
          unfold BodyPost
          rw [HD.out]
          have hl : (b ++ (List.range t).map fun j => bse a (m + j)).length = M := by rw [List.length_append, List.length_map, List.length_range, ← HM.out, HMM.out]
          simp only [hl]
          exact ⟨OA2, oc2, rfl, hown3, hst3, hq1, hbel3, hN⟩
        · have hend' : ((M : Int) == N) = false := by simp; omega
          have hri := rint_any g base l q1 wr hst3 hq1 hs HB.out
          have HRI := Lib.hid hri
          obtain ⟨⟨err2, V2, q2⟩, hrd3⟩ : ∃ r, r = rdNat l q1 := ⟨_, rfl⟩
          have herr2 : err2 = 0 ∨ err2 = 3 ∨ err2 = 14 := by have := rdN_err l q1 17 0 0 q1; rw [show rdN l q1 17 0 0 q1 = rdNat l q1 from rfl, ← hrd3] at this; exact this
          have hD := HBD.out
          rw [if_neg (by decide), if_neg hS, if_neg (by have := HMM.out; omega), ← hrd3, ← HMM.out] at hD
          have HD := Lib.hid hD
          have HRD3 := Lib.hid hrd3
          clear hD hrd3 hri
          go_wp2_with fail
          refine HRI.out.mono ?_
          rintro e w4 ⟨rfl, hst4, hq2, hg4, hz4⟩
          rw [← HRD3.out] at hst4 hq2 ⊢
          simp only at hst4 hq2 ⊢
          have hown4 := own_rdr hown3 hst3 hg4
          have hbel4 := hbel3.trans (Gb.below hg4 hbg (by omega))
          have hsz4 : w.heap.size ≤ w4.heap.size := by omega
          clear hg4 hz4 HRI hst3 hown3 hbel3 hsz3
          rcases herr2 with rfl | rfl | rfl
          rotate_left
          · go_wp2_with fail
            go_ret2
            have hD := HD.out
            rw [if_pos (by decide)] at hD
            unfold BodyPost
            rw [hD]
            exact ⟨none, 0, rfl, World.ownsRow_nil _ _ _ _, hst4, hq2, hbel4, by simp⟩
          · go_wp2_with fail
            go_ret2
            have hD := HD.out
            rw [if_pos (by decide)] at hD
            unfold BodyPost
            rw [hD]
            exact ⟨none, 0, rfl, World.ownsRow_nil _ _ _ _, hst4, hq2, hbel4, by simp⟩
          simp only [if_true]
          have hba := base_any A n c B M a w4 (HR.out.below (hbel4.mono hB)) HN.out (by omega) (by omega)
          obtain ⟨y, hy⟩ : ∃ y, y = bse a M := ⟨_, rfl⟩
          rw [← hy] at hba
          have HBA := Lib.hid hba
          have HY := Lib.hid hy
          obtain ⟨x, hx⟩ : ∃ x, x = zag V2 := ⟨_, rfl⟩
          have HX := Lib.hid hx
          rw [← hx]
          clear hba hy hx
          go_wp2_with fail
          refine HBA.out.mono ?_
          rintro e w5 ⟨rfl, rfl⟩
          go_wp2_with
            (at_builtin
             go_must (refine wpList_append_one _ rfl (.tmp 66) (.tmp 73) _ rfl w.heap.size 3 i3 (.int .i64 0) 1 8 Try.underlying41 hi3 hy0 hy1 hy2 rfl (by decide) (.slice OA2 M oc2) M _ rfl (hown4.alloc _) w4.heap.size 1 3 #[.int .i64 (wrap64 (y + x))] rfl (Bk.new _ _ _) rfl ?d1 (M + 1) rfl ?d2 ?d3 ?d4 ?_)
             case d1 => simp [Value.oneCell']
             case d2 => unfold maxLen; omega
             case d3 => omega
             case d4 => simp; omega
             intro g5 cc5 w5 hown5 hg5 hat5
             have hst5 := (hst4.blw ((Below.refl _ _).alloc (Nat.le_refl _) (.cells #[.int .i64 (wrap64 (y + x))] 3))).grown3 (hown4.alloc _) hg5
             have hbel5 := (hbel4.alloc (by omega) (.cells #[.int .i64 (wrap64 (y + x))] 3)).grown hg5 (by simp; omega) (fun q hq => by have := (hown4.lt q hq).1; omega)
             have hsz5 : w.heap.size ≤ w5.heap.size := by have := hg5.size; simp at this; omega
             have HO5 := Lib.hid hown5
             clear hown5 hg5 hat5)
          go_roundw
          case rel =>
            refine ⟨f', (b ++ (List.range t).map fun j => bse a (m + j)) ++ [wrap64 (y + x)], q2, some ⟨g5, 0, none⟩, cc5, M + 1, Lib.hid ?_, by have := HMM.out; omega, rfl, by have := HMM.out; omega, Lib.hid ?_, hq2, hst5, ?_, hbel5, hsz5⟩
            · rw [List.length_append, List.length_append, List.length_map, List.length_range, ← HM.out, HMM.out]; rfl
            · rw [HD.out, if_neg (by decide), HY.out, HX.out]
            · rw [List.map_append]; exact HO5.out
          case measure => simp only [sliceLen]; have := HMM.out; omega
end Go.Proofs.Ytlgcdcjfobfoiaa
