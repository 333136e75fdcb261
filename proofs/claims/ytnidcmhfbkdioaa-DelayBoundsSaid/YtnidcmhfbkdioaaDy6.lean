/-
  The walk of the law DelaySays. Conditions: the notes can be read, within the reach.
-/
import Derived.Test.YtnidcmhfbkdioaaDy5
namespace Go.Proofs.Ytnidcmhfbkdioaa
open Go.RowKit
set_option maxRecDepth 100000

theorem own_keepB {w w' : World} {base size n : Nat} {e : TypeId} {v : Value} {xs : List Value} (h : w.ownsRow base e size v n xs) (hk : ∀ g, v.ownBlock = some g → w'.heap[g]? = w.heap[g]?) : w'.ownsRow base e size v n xs := by
  refine ⟨h.1, ?_⟩
  rcases h.2 with h2 | ⟨g, cap, cur, rfl, h3, h4, h5⟩
  · exact .inl h2
  · exact .inr ⟨g, cap, cur, rfl, h3, (hk g rfl).trans h4, h5⟩
theorem DlSt.grown {w w' : World} {base g : Nat} {F : List Nat} {low high now : Int} {last : List Int} {calm : Nat} {row : Option Nat} (h : DlSt w base F g low high now last calm) (hg : w.grownBy w' row) (hr : ∀ b, row = some b → b ∉ F) : DlSt w' base F g low high now last calm :=
  h.keep (fun k hk => hg.block k (h.lo k hk).2 (fun e => hr k e.symm hk)) hg.size
theorem DlSt.fq {w w' : World} {base g : Nat} {F E : List Nat} {low high now : Int} {last : List Int} {calm : Nat} (h : DlSt w base F g low high now last calm) (hq : Fq E w w') (hd : ∀ k ∈ F, k ∉ E) : DlSt w' base F g low high now last calm :=
  h.keep (fun k hk => hq.low k (h.lo k hk).2 (hd k hk)) hq.size

/-- The fact that both laws ask: a delay from 1 to 5 stands at 3 behind a note of 2. -/
theorem fact_note : noteF 1 5 1 [] 0 2 = (3, [], 0) := by decide

/-- What the law's own list is, and the delay beside it. -/
structure DsO (w0 wr : World) (L : List Int) (F : List Nat) (A : Option Addr) (q c : Nat) : Prop where
  own : wr.ownsRow w0.heap.size 3 1 (.slice A q c) q (L.map (Value.int .i64))
  len : q = L.length
  ap : ∀ b, (Value.slice A q c).ownBlock = some b → b ∉ F
  bl : Below w0.heap.size w0 wr
theorem DsO.fq {w0 wr w' : World} {L : List Int} {F F' : List Nat} {A : Option Addr} {q c : Nat} (h : DsO w0 wr L F A q c) (hq : Fq F wr w') (hs : SubF F F' wr.heap.size) (hF : ∀ k ∈ F, w0.heap.size ≤ k) : DsO w0 w' L F' A q c :=
  ⟨own_keepB h.own fun g hg => hq.low g (h.own.lt g hg).2 (h.ap g hg), h.len, fun b hb hF' => by
    rcases hs b hF' with h1 | h1
    · exact h.ap b hb h1
    · have := (h.own.lt b hb).2; omega, h.bl.trans (hq.below hF h.bl.size)⟩
theorem DsO.below {w0 wr w' : World} {L : List Int} {F : List Nat} {A : Option Addr} {q c : Nat} (h : DsO w0 wr L F A q c) (hb : Below wr.heap.size wr w') : DsO w0 w' L F A q c :=
  ⟨own_keepB h.own fun g hg => hb.block g (h.own.lt g hg).2, h.len, h.ap, h.bl.trans (hb.mono h.bl.size)⟩
theorem Rd.drop1 {w : World} {B n b o d : Nat} {xs : List Value} (h : Rd w B 1 (some ⟨b, o, none⟩) n xs) (hd : d ≤ n) : Rd w B 1 (some ⟨b, o + d, none⟩) (n - d) (xs.drop d) := by
  refine ⟨by rw [List.length_drop, h.1]; omega, fun hn => ?_⟩
  obtain ⟨b', o', he, hb, hc⟩ := h.2 (by omega)
  injection he with he
  injection he with e1 e2
  subst e1 e2
  refine ⟨b, o + d, rfl, hb, fun j u hu => ?_⟩
  rw [List.getElem?_drop] at hu
  rw [Nat.add_assoc]
  exact hc _ _ hu
theorem own_cap {w : World} {base n c : Nat} {e : TypeId} {A : Option Addr} {xs : List Value} (h : w.ownsRow base e 1 (.slice A n c) n xs) : n ≤ c := by
  rcases h.2 with ⟨hv, _⟩ | ⟨g', cap, cur, hv, _, _, h1, _⟩
  · injection hv; omega
  · injection hv with _ _ h3
    omega
theorem DsO.nil_ (w0 wr : World) (F : List Nat) (hb : Below w0.heap.size w0 wr) : DsO w0 wr [] F none 0 0 := ⟨World.ownsRow_nil _ _ _ _, rfl, fun _ h => by simp [Value.ownBlock] at h, hb⟩

theorem ds_app {w0 wr w' : World} {L : List Int} {F : List Nat} {A : Option Addr} {q c g' c' : Nat} {y : Int} (h : DsO w0 wr L F A q c) (hF : ∀ k ∈ F, w0.heap.size ≤ k ∧ k < wr.heap.size)
    (hown : w'.ownsRow w0.heap.size 3 1 (.slice (some ⟨g', 0, none⟩) (q + 1) c') (q + 1) (L.map (Value.int .i64) ++ (#[Value.int .i64 y] : Array Value).toList))
    (hg : (wr.alloc (.cells #[.int .i64 y] 3)).grownBy w' (Value.slice A q c).ownBlock) (hat : (Value.slice A q c).ownBlock = some g' ∨ g' = (wr.alloc (.cells #[.int .i64 y] 3)).heap.size) :
    DsO w0 w' (L ++ [y]) F (some ⟨g', 0, none⟩) (q + 1) c' := by
  refine ⟨by simpa using hown, by simp [h.len], fun b hb hF' => ?_, (h.bl.alloc h.bl.size _).grown hg (by have := h.bl.size; simp; omega) fun k hk => (h.own.lt k hk).1⟩
  obtain rfl : g' = b := by simpa [Value.ownBlock] using hb
  rcases hat with h1 | h1
  · exact h.ap g' h1 hF'
  · have := (hF g' hF').2
    simp at h1; omega
theorem ds_dl {wr w' : World} {base g : Nat} {F : List Nat} {low high now y : Int} {last : List Int} {calm : Nat} {v : Value} (h : DlSt wr base F g low high now last calm) (ha : ∀ b, v.ownBlock = some b → b ∉ F)
    (hg : (wr.alloc (.cells #[.int .i64 y] 3)).grownBy w' v.ownBlock) : DlSt w' base F g low high now last calm :=
  (h.below ((Below.refl _ _).alloc (Nat.le_refl _) (.cells #[.int .i64 y] 3))).grown hg ha

set_option maxHeartbeats 4000000 in
theorem delaySays_walk (low high : Int) (A : Option Addr) (n c : Nat) (zs : List Int) (w : World) (hr : Rd w w.heap.size 1 A n (zs.map (Value.int .i64))) (hn : n = zs.length) (hnc : n ≤ c) (hc : c ≤ 9223372036854775807) (hz : ∀ z ∈ zs, (Lit.int .i64 z).wf = true) (hre : n * 8 ≤ 140737488351232) :
    Calls Try.prog 9 #[.int .i64 low, .int .i64 high, .slice A n c] w fun e w' => e = .returned (.bool true) ∧ Below w.heap.size w w' := by
  have HNEW := Lib.hid new_any
  have HR := Lib.hid hr
  have HZ := Lib.hid hz
  have HN := Lib.hid hn
  clear hr hz hn
  go_enter Try.func9, Try.ntmps9
  go_wp2_with fail
  refine (HNEW.out low high w).mono ?_
  rintro e w1 (⟨hbad, rfl, rfl⟩ | ⟨hgood, rfl, hd, hb1⟩)
  · go_wp2_with fail
    refine (HNEW.out 1 5 _).mono ?_
    rintro e w2 (⟨hbad2, _⟩ | ⟨-, rfl, hf, hb2⟩)
    · exact absurd hbad2 (by omega)
    have hno := note_any 2 hf (by simp) (by omega) (by omega) (by omega) (by omega) (by omega) hb2.size
    rw [fact_note] at hno
    have HNO := Lib.hid hno
    clear hno hf
    go_wp2_with fail
    refine HNO.out.mono ?_
    rintro e w3 ⟨F', rfl, hf3, hs3, hq3⟩
    have hb3 : Below w.heap.size w w3 := hb2.trans (hq3.below (fun k hk => by simp at hk; omega) hb2.size)
    have hva := value_any hf3
    have HVA := Lib.hid hva
    clear hva hf3 hs3 hq3 hb2
    go_wp2_with fail
    refine HVA.out.mono ?_
    rintro e w4 ⟨rfl, rfl⟩
    by_cases h1 : low < 0
    · go_wp2_with fail
      go_ret
      exact ⟨rfl, hb3⟩
    · by_cases h2 : high < low
      · go_wp2_with fail
        go_ret
        exact ⟨rfl, hb3⟩
      · have h3 : 20 < high := by omega
        go_wp2_with fail
        go_ret
        exact ⟨rfl, hb3⟩
  have hg0 : 0 ≤ low := by omega
  have hg1 : low ≤ high := by omega
  have hg2 : high ≤ 20 := by omega
  have HD := Lib.hid hd
  have HB1 := Lib.hid hb1
  clear hgood hd hb1
  go_wp2_with fail
  refine (HNEW.out 1 5 _).mono ?_
  rintro e w2 (⟨hbad2, _⟩ | ⟨-, rfl, hf, hb2⟩)
  · exact absurd hbad2 (by omega)
  have hd2 := HD.out.below hb2
  have hno := note_any 2 hf (by simp) (by omega) (by omega) (by omega) (by omega) (by omega) hb2.size
  rw [fact_note] at hno
  have HNO := Lib.hid hno
  have hbb2 := HB1.out.trans (hb2.mono HB1.out.size)
  have hz1 := (HD.out.lo w.heap.size (by simp)).2
  have HD2 := Lib.hid hd2
  have HBB2 := Lib.hid hbb2
  have HZ1 := Lib.hid hz1
  clear hno hf hd2 hbb2 hb2 hz1
  go_wp2_with fail
  refine HNO.out.mono ?_
  rintro e w3 ⟨F', rfl, hf3, hs3, hq3⟩
  have hd3 := HD2.out.fq hq3 (fun k hk => by have := HZ1.out; simp at hk ⊢; omega)
  have hb3 : Below w.heap.size w w3 := HBB2.out.trans (hq3.below (fun k hk => by have := HZ1.out; simp at hk; omega) HBB2.out.size)
  have HVA := Lib.hid (value_any hf3)
  have HD3 := Lib.hid hd3
  have HB3 := Lib.hid hb3
  clear hf3 hs3 hq3 hd3 hb3
  go_wp2_with fail
  refine HVA.out.mono ?_
  rintro e w4 ⟨rfl, rfl⟩
  go_wp2_with fail
  clear HNEW HNO HVA HD HB1 HD2 HBB2 HZ1
  go_loopw [11, 12, 59] (fun nv lv i wr => ∃ (k : Nat) (nw : Int) (L : List Int) (F : List Nat) (A' : Option Addr) (q c' : Nat), k ≤ n ∧ i = .int .i64 k ∧ nv = .int .i64 nw ∧ lv = .slice A' q c' ∧ q ≤ k ∧ low ≤ nw ∧ nw ≤ high ∧ Hid (DlSt wr w.heap.size F w.heap.size low high nw (last9 L) L.length) ∧ Hid (DsO w wr L F A' q c')) (fun _ _ i _ => n - (intOf i).toNat)
  case atStart => exact ⟨0, low, [], _, none, 0, 0, Nat.zero_le _, rfl, rfl, rfl, Nat.le_refl _, by omega, by omega, HD3, Lib.hid (DsO.nil_ w _ _ HB3.out)⟩
  case round =>
    obtain ⟨k, nw, L, F, A', q, c', hk, rfl, rfl, rfl, hqk, hw1, hw2, HDL, HDO⟩ := hrel
    by_cases hlt : k < n
    · obtain ⟨x, hx⟩ : ∃ x, zs[k]? = some x := ⟨_, List.getElem?_eq_getElem (by have := HN.out; omega)⟩
      have hrd := HR.out.below HDO.out.bl
      obtain ⟨b, o, rfl, hbb, hcx⟩ := hrd.at1 hlt (u := .int .i64 x) (by rw [List.getElem?_map, hx]; rfl)
      have hxr := bounds_i64 (HZ.out x (List.mem_of_getElem? hx))
      have hkn : (k : Int) < n := by omega
      obtain ⟨R, hR⟩ : ∃ R, R = refF low high nw L x := ⟨_, rfl⟩
      have hno := note_any x HDL.out (by rw [last9_length]; omega) (by have := HDO.out.len; omega) hg0 hw1 hw2 hg2 HDO.out.bl.size
      rw [note_ref, ← hR] at hno
      have hRb : low ≤ R.1 ∧ R.1 ≤ high := by
        have := note_bd (last := last9 L) (calm := L.length) x hw1 hw2
        rw [note_ref, ← hR] at this
        exact this
      have HNO := Lib.hid hno
      have HRR := Lib.hid hR
      have HRB := Lib.hid hRb
      clear hno hR hRb hrd hx
      go_wp2_with fail
      refine HNO.out.mono ?_
      rintro e w5 ⟨F5, rfl, hd5, hs5, hq5⟩
      have HO5 := Lib.hid (HDO.out.fq hq5 hs5 (fun k hk => (HDL.out.lo k hk).1))
      have HD5 := Lib.hid hd5
      clear hd5 hs5 hq5 HDL HDO HNO
      obtain ⟨y, hy⟩ : ∃ y, y = clampN x := ⟨_, rfl⟩
      have hyl : min (max x (-20)) 20 = y := by rw [hy]; rfl
      have hyb : -20 ≤ y ∧ y ≤ 20 := by rw [hy]; unfold clampN; omega
      have hRu := HRR.out
      unfold refF at hRu
      rw [← hy] at hRu
      obtain ⟨hyb1, hyb2⟩ := hyb
      have HYL := Lib.hid hyl
      clear hyl HRR
      by_cases hp : 0 < y
      · rw [if_pos hp] at hRu
        subst hRu
        clear hy
        go_upto_region 19 with fail
        rw [HYL.out]
        go_wp2_with fail
        refine (value_any HD5.out).mono ?_
        rintro e w6 ⟨rfl, rfl⟩
        go_wp2_with fail
        go_roundw
        case rel => exact ⟨k + 1, _, [], F5, none, 0, 0, by omega, by go_num, rfl, rfl, Nat.zero_le _, HRB.out.1, HRB.out.2, HD5, Lib.hid (DsO.nil_ w _ _ HO5.out.bl)⟩
        case measure => simp [intOf]; omega
      · rw [if_neg hp] at hRu
        have HRU := Lib.hid hRu
        have HY := Lib.hid hy
        clear hRu hy
        go_upto_region 19 with fail
        rw [HYL.out]
        go_upto_region 21 with fail
        obtain ⟨i0, hi0, hz0, hz1, hz2⟩ := info_parts T.info3
        have hq44 : q + 1 ≤ 17592186044416 := by omega
        obtain ⟨d, hd⟩ : ∃ d, d = q + 1 - 9 := ⟨_, rfl⟩
        obtain ⟨m, hm⟩ : ∃ m, m = q + 1 - d := ⟨_, rfl⟩
        have hm1 : 1 ≤ m := by omega
        have hm9 : m ≤ 9 := by omega
        have hmx : max 0 ((q : Int) + 1 - 9) = (d : Int) := by omega
        have hdq : (d : Int) ≤ q := by omega
        have hqd : (q : Int) + 1 - d = m := by omega
        have HHD := Lib.hid hd
        have HHM := Lib.hid hm
        clear hd hm
        go_wp2_with
          (at_builtin
           go_must (refine wpList_append_one _ rfl (.tmp 76) (.tmp 78) 30 rfl w.heap.size 3 i0 (.int .i64 0) 1 8 Try.underlying30 hi0 hz0 hz1 hz2 rfl (by decide) (.slice A' q c') q (L.map (Value.int .i64)) rfl (HO5.out.own.alloc _) w5.heap.size 1 3 #[.int .i64 y] rfl (Bk.new w5 3 _) rfl ?c1 (q + 1) rfl ?c2 ?c3 ?c4 ?_)
           case c1 => simp [Value.oneCell']
           case c2 => unfold maxLen; omega
           case c3 => omega
           case c4 => (have := HO5.out.bl.size; simp; omega)
           intro g6 c6 w6 hown6 hgr6 hat6
           have HO6 := Lib.hid (ds_app HO5.out HD5.out.lo hown6 hgr6 hat6)
           have HD6 := Lib.hid (ds_dl HD5.out HO5.out.ap hgr6)
           have hc6 := own_cap hown6
           clear hown6 hgr6 hat6)
        rw [← HHM.out]
        have hl9 : (last9 (L ++ [y])).length = m := by rw [last9_length, HHM.out, HHD.out]; have := HO6.out.len; simp at this ⊢; omega
        have hrd6 : Rd w6 w6.heap.size 1 (some ⟨g6, d, none⟩) m ((last9 (L ++ [y])).map (Value.int .i64)) := by
          have h1 := (Rd.of_own HO6.out.own).drop1 (d := d) (by omega)
          rw [Nat.zero_add, ← HHM.out] at h1
          have h2 : (last9 (L ++ [y])).map (Value.int .i64) = ((L ++ [y]).map (Value.int .i64)).drop d := by
            unfold last9
            rw [List.map_drop, ← HO6.out.len, ← HHD.out]
          rw [h2]
          exact h1
        have HS := Lib.hid (sorted_lit (some ⟨g6, d, none⟩) m (c6 - d) (last9 (L ++ [y])) (by omega) hm1 w6.heap.size w6 hrd6 (Nat.le_refl _))
        obtain ⟨md, hmd⟩ : ∃ md, md = medF (last9 (L ++ [y])) := ⟨_, rfl⟩
        obtain ⟨ix, hix⟩ : ∃ ix, ix = (m - 1) / 2 := ⟨_, rfl⟩
        have hixm : ix < m := by omega
        have hixe : ((m : Int) - 1) / 2 = (ix : Int) := by omega
        have hsv : ((srt (last9 (L ++ [y]))).map (Value.int .i64))[ix]? = some (.int .i64 md) := by
          have hlt : ix < (srt (last9 (L ++ [y]))).length := by rw [srt_length, hl9]; exact hixm
          rw [List.getElem?_map, List.getElem?_eq_getElem hlt, hmd]
          unfold medF
          rw [List.getD_eq_getElem?_getD, hl9, ← hix, List.getElem?_eq_getElem hlt]
          rfl
        have HSV := Lib.hid hsv
        have HMD := Lib.hid hmd
        have HL9 := Lib.hid hl9
        have HIXE := Lib.hid hixe
        clear hsv hmd hl9 hrd6 hix hixe
        have HVV := Lib.hid values_any
        refine (HVV.out _ _ _ _).mono ?_
        rintro e w7 ⟨rfl, rfl⟩
        go_wp2_with fail
        refine HS.out.mono ?_
        rintro e w8 ⟨v, rfl, hown8, hb8⟩
        rw [HL9.out] at hown8
        obtain ⟨A8, c8, rfl⟩ := ownsRow_slice hown8
        obtain ⟨g8, cap8, hv8, _, hlt8⟩ := hown8.form (by omega)
        have hA8 : A8 = some ⟨g8, 0, none⟩ := by injection hv8
        subst hA8
        have hcell : w8.cell? ⟨g8, ix, none⟩ = some (.int .i64 md) := by
          have := hown8.cells (g := g8) rfl ix _ HSV.out
          rw [Addr.add_lit] at this
          simpa using this
        have hbb : Below w6.heap.size w6 w8 := ((Below.refl w6.heap.size w6).alloc (Nat.le_refl _) (.cells #[.slice (some ⟨g6, d, none⟩) m (c6 - d)] 30)).trans (hb8.mono (by simp))
        have HD8 := Lib.hid (HD6.out.below hbb)
        have HO8 := Lib.hid (HO6.out.below hbb)
        have hixe := HIXE.out
        clear hown8 hb8 hv8 hbb HO6 HD6 HO5 HD5 HS HSV
        have hRR := HRU.out
        rw [← HMD.out, List.length_append, List.length_singleton] at hRR
        have hLq := HO8.out.len
        rw [List.length_append, List.length_singleton] at hLq
        rw [← hLq] at hRR
        clear hLq HRU
        by_cases h8 : 8 ≤ q + 1
        · by_cases hm0 : md < 0
          · rw [if_pos ⟨h8, hm0⟩] at hRR
            subst hRR
            go_wp2_with fail
            refine (value_any HD8.out).mono ?_
            rintro e w9 ⟨rfl, rfl⟩
            go_wp2_with fail
            go_roundw
            case rel => exact ⟨k + 1, _, [], F5, none, 0, 0, by omega, by go_num, rfl, rfl, Nat.zero_le _, HRB.out.1, HRB.out.2, HD8, Lib.hid (DsO.nil_ w _ _ HO8.out.bl)⟩
            case measure => simp [intOf]; omega
          · rw [if_neg (fun h => hm0 h.2)] at hRR
            subst hRR
            go_wp2_with fail
            refine (value_any HD8.out).mono ?_
            rintro e w9 ⟨rfl, rfl⟩
            go_wp2_with fail
            go_roundw
            case rel => exact ⟨k + 1, _, L ++ [y], F5, _, q + 1, c6, by omega, by go_num, rfl, rfl, by omega, HRB.out.1, HRB.out.2, HD8, HO8⟩
            case measure => simp [intOf]; omega
        · rw [if_neg (fun h => h8 h.1)] at hRR
          subst hRR
          go_wp2_with fail
          refine (value_any HD8.out).mono ?_
          rintro e w9 ⟨rfl, rfl⟩
          go_wp2_with fail
          go_roundw
          case rel => exact ⟨k + 1, _, L ++ [y], F5, _, q + 1, c6, by omega, by go_num, rfl, rfl, by omega, HRB.out.1, HRB.out.2, HD8, HO8⟩
          case measure => simp [intOf]; omega
    · obtain rfl : k = n := by omega
      go_wp2_with fail
      go_ret
      exact ⟨rfl, HDO.out.bl⟩
end Go.Proofs.Ytnidcmhfbkdioaa
