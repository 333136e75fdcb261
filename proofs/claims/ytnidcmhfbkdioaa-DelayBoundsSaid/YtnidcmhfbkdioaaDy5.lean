/-
  The contract of a delay's Note. Conditions: a delay in memory with its bounds, at most 9 notes kept.
-/
import Derived.Test.YtnidcmhfbkdioaaDy4
import Derived.RegionTactic
import Derived.ChangeAlike
import Derived.BigRegion
import Derived.IntWalk
namespace Go.Proofs.Ytnidcmhfbkdioaa
open Go.RowKit
set_option maxRecDepth 100000

def NoteP (w : World) (base : Nat) (F : List Nat) (g : Nat) (low high : Int) (r : Int × List Int × Nat) (e : Ending) (w' : World) : Prop :=
  ∃ F', e = .returned (.tuple #[]) ∧ DlSt w' base F' g low high r.1 r.2.1 r.2.2 ∧ SubF F F' w.heap.size ∧ Fq F w w'

theorem min_clamp (late : Int) : min (max late (-20)) 20 = clampN late := rfl
theorem last9_small {l : List Int} {x : Int} (h : l.length ≤ 8) : last9 (l ++ [x]) = l ++ [x] := by
  unfold last9
  rw [show (l ++ [x]).length - 9 = 0 by simp; omega]; rfl
theorem last9_nine {a x : Int} {l : List Int} (h : l.length = 8) : last9 (a :: l ++ [x]) = l ++ [x] := by
  unfold last9
  rw [show (a :: l ++ [x]).length - 9 = 1 by simp; omega]; rfl

/-- Behind the first two regions: the note has been kept. -/
structure MidSt (w0 w : World) (base : Nat) (F : List Nat) (g : Nat) (low high now : Int) (last : List Int) (calm : Nat) (A : Option Addr) (n c : Nat) : Prop where
  bk : Bk w g 234 #[.int .i64 low, .int .i64 high, .int .i64 now, .slice A n c, .int .i64 calm]
  sh : Sh w base 3 1 A n c (last.map (Value.int .i64))
  len : n = last.length
  gF : g ∈ F
  sub : SubF F (g :: blkA A) w0.heap.size
  lo : ∀ k ∈ g :: blkA A, base ≤ k ∧ k < w.heap.size
  fq : Fq F w0 w
theorem MidSt.dl {w0 w : World} {base g : Nat} {F : List Nat} {low high now : Int} {last : List Int} {calm : Nat} {A : Option Addr} {n c : Nat} (h : MidSt w0 w base F g low high now last calm A n c) : DlSt w base (g :: blkA A) g low high now last calm :=
  ⟨⟨A, c, by rw [← h.len]; exact h.bk, by rw [← h.len]; exact h.sh, rfl⟩, h.lo⟩
theorem MidSt.set4 {w0 w : World} {base g : Nat} {F : List Nat} {low high now : Int} {last : List Int} {calm : Nat} {A : Option Addr} {n c : Nat} (h : MidSt w0 w base F g low high now last calm A n c) (k : Nat) : MidSt w0 (w.setCell ⟨g, 4, none⟩ (.int .i64 ((k : Int) + 1))) base F g low high now last (k + 1) A n c :=
  ⟨by
      rw [show ((k : Int) + 1) = ((k + 1 : Nat) : Int) by omega]
      exact h.bk.set_ 4 _, h.sh.keep fun q cs hA hb => hb.far (fun e => h.sh.ne h.bk (by decide) (by rw [hA, show q = g from e])) _, h.len, h.gF, h.sub, fun q hq => by simpa [World.setCell] using h.lo q hq, h.fq.set (.inl h.gF) 4 _⟩
theorem MidSt.below {w0 w w' : World} {base g : Nat} {F : List Nat} {low high now : Int} {last : List Int} {calm : Nat} {A : Option Addr} {n c : Nat} (h : MidSt w0 w base F g low high now last calm A n c) (hb : Below w.heap.size w w') : MidSt w0 w' base F g low high now last calm A n c :=
  ⟨h.bk.below hb h.bk.lt, h.sh.below hb, h.len, h.gF, h.sub, fun q hq => ⟨(h.lo q hq).1, Nat.lt_of_lt_of_le (h.lo q hq).2 hb.size⟩, h.fq.trans (Fq.of_below (F := []) hb) (fun _ hk => by cases hk)⟩
theorem MidSt.end_ {w0 w : World} {base g : Nat} {F : List Nat} {low high now : Int} {last : List Int} {calm : Nat} {A : Option Addr} {n c : Nat} (h : MidSt w0 w base F g low high now last calm A n c) : NoteP w0 base F g low high (now, last, calm) (.returned (.tuple #[])) w :=
  ⟨_, rfl, h.dl, h.sub, h.fq⟩
/-- The three stores that end a calm. -/
theorem MidSt.reset {w0 w : World} {base g : Nat} {F : List Nat} {low high now : Int} {last : List Int} {calm : Nat} {A : Option Addr} {n c : Nat} (h : MidSt w0 w base F g low high now last calm A n c) (x : Int) :
    NoteP w0 base F g low high (x, [], 0) (.returned (.tuple #[])) ((((w.setCell ⟨g, 2, none⟩ (.int .i64 x)).setCell ⟨g, 4, none⟩ (.int .i64 0)).setCell ⟨g, 3, none⟩ (.slice none 0 0))).drew := by
  have hg := h.lo g (by simp)
  refine ⟨[g], rfl, ⟨⟨none, 0, ?_, Sh.nil_ _ _ _ _, rfl⟩, ?_⟩, fun k hk => ?_, ?_⟩
  · exact ((h.bk.set_ 2 _).set_ 4 _).set_ 3 _
  · intro k hk
    rw [List.mem_singleton.1 hk]
    simpa [World.setCell] using hg
  · rw [List.mem_singleton.1 hk]
    exact .inl h.gF
  · exact (((h.fq.set (.inl h.gF) 2 _).set (.inl h.gF) 4 _).set (.inl h.gF) 3 _).drew

/-- The append, and the store of what it gives. -/
theorem mid_app {w w1 : World} {base g gA c' : Nat} {F : List Nat} {low high now x : Int} {last : List Int} {calm : Nat} {A : Option Addr} {n c : Nat} {pre post : List Value}
    (hbk : Bk w g 234 #[.int .i64 low, .int .i64 high, .int .i64 now, .slice A n c, .int .i64 calm]) (hsh : Sh w base 3 1 A n c (last.map (Value.int .i64))) (hF : F = g :: blkA A) (hlo : ∀ k ∈ F, base ≤ k ∧ k < w.heap.size) (hn : n = last.length)
    (hbg : base ≤ gA) (h1 : Bk w1 gA 3 (pre ++ ((last.map (Value.int .i64) ++ (#[Value.int .i64 x] : Array Value).toList) ++ post)).toArray) (h2 : n + 1 ≤ c') (h3 : c' ≤ maxLen) (h4 : (c' - (n + 1)) * 1 ≤ post.length)
    (h5 : (w.alloc (.cells #[.int .i64 x] 3)).grownBy w1 (A.map (·.block))) (h6 : A.map (·.block) = some gA ∨ gA = (w.alloc (.cells #[.int .i64 x] 3)).heap.size) :
    MidSt w (w1.setCell ⟨g, 3, none⟩ (.slice (some ⟨gA, pre.length, none⟩) (n + 1) c')) base F g low high now (last ++ [x]) calm (some ⟨gA, pre.length, none⟩) (n + 1) c' := by
  have hne : some g ≠ A.map (·.block) := hsh.ne hbk (by decide)
  have hgA : g ≠ gA := by
    rintro rfl
    rcases h6 with h6 | h6
    · exact hne h6.symm
    · have := hbk.lt; simp at h6; omega
  have hbk1 := (hbk.alloc (.cells #[.int .i64 x] 3)).grown h5 hne
  refine ⟨hbk1.set_ 3 _, ⟨by simp [hn], h2, h3, .inr ⟨gA, pre, post, rfl, hbg, ?_, h4⟩⟩, by simp [hn], by rw [hF]; simp, ?_, ?_, ?_⟩
  · have : (last ++ [x]).map (Value.int .i64) = last.map (Value.int .i64) ++ (#[Value.int .i64 x] : Array Value).toList := by simp
    rw [this]
    exact h1.far (fun e => hgA e.symm) _
  · intro k hk
    rcases List.mem_cons.1 hk with rfl | hk
    · exact .inl (by rw [hF]; simp)
    · obtain rfl : gA = k := by simpa using blkA_mem.1 hk
      rcases h6 with h6 | h6
      · exact .inl (by rw [hF]; simp [blkA_mem, h6])
      · exact .inr (by simp at h6; omega)
  · intro k hk
    rcases List.mem_cons.1 hk with rfl | hk
    · exact ⟨(hlo _ (by rw [hF]; simp)).1, by simpa [World.setCell] using hbk1.lt⟩
    · obtain rfl : gA = k := by simpa using blkA_mem.1 hk
      exact ⟨hbg, by simpa [World.setCell] using h1.lt⟩
  · have hf : Fq F w w1 := (Fq.refl.alloc _).grown h5 fun q hq => .inl (by rw [hF]; simp [blkA_mem, hq])
    exact hf.set (.inl (by rw [hF]; simp)) 3 _
/-- The cut in front, and its store. -/
theorem MidSt.cut {w0 w : World} {base g gA o : Nat} {F : List Nat} {low high now a : Int} {last : List Int} {calm n c : Nat} (h : MidSt w0 w base F g low high now (a :: last) calm (some ⟨gA, o, none⟩) (n + 1) c) :
    MidSt w0 (w.setCell ⟨g, 3, none⟩ (.slice (some ⟨gA, o + 1, none⟩) n (c - 1))) base F g low high now last calm (some ⟨gA, o + 1, none⟩) n (c - 1) := by
  have hsh : Sh w base 3 1 (some ⟨gA, o, none⟩) (n + 1) c (.int .i64 a :: last.map (Value.int .i64)) := h.sh
  exact ⟨h.bk.set_ 3 _, hsh.tl.keep fun q cs hA hb => hb.far (fun e => h.sh.ne h.bk (by decide) (by
      have hq : (some gA : Option Nat) = some q := hA
      show some g = some gA
      rw [hq, show q = g from e])) _, by have := h.len; simp at this; omega, h.gF, h.sub, fun q hq => by simpa [World.setCell] using h.lo q hq, h.fq.set (.inl h.gF) 3 _⟩


set_option maxHeartbeats 1600000 in
theorem note_pos_s {w : World} {base g : Nat} {F : List Nat} {low high now : Int} {last : List Int} {calm : Nat} (late : Int) (h : DlSt w base F g low high now last calm) (hq : last.length ≤ 8) (hcm : calm ≤ 1000000000000000) (hl0 : 0 ≤ low) (hl1 : low ≤ now) (hl2 : now ≤ high) (hl3 : high ≤ 20) (hbs : base ≤ w.heap.size) (hp : 0 < late) :
    Calls Try.prog 50 #[.pointer (some ⟨g, 0, none⟩), .int .i64 late] w (NoteP w base F g low high (min (now + min late 20) high, [], 0)) := by
  obtain ⟨i0, hi0, hz0, hz1, hz2⟩ := info_parts T.info3
  have HLO := Lib.hid h.lo
  obtain ⟨⟨A, c, hbk, hsh, hF⟩, -⟩ := h
  obtain ⟨q, hqq⟩ : ∃ q, q = last.length := ⟨_, rfl⟩
  rw [← hqq] at hbk hsh hq
  obtain ⟨x, hx⟩ : ∃ x, x = clampN late := ⟨_, rfl⟩
  have hxl : min (max late (-20)) 20 = x := by rw [hx]; rfl
  have m0 := hbk.cell 0
  have m1 := hbk.cell 1
  have m2 := hbk.cell 2
  have m3 := hbk.cell 3
  have m4 := hbk.cell 4
  simp only [List.getElem?_toArray, List.getElem?_cons_zero, List.getElem?_cons_succ] at m0 m1 m2 m3 m4
  have HBK := Lib.hid hbk
  have HSH := Lib.hid hsh
  have HF := Lib.hid hF
  have HQ := Lib.hid hqq
  have HX := Lib.hid hx
  have HXL := Lib.hid hxl
  clear hbk hsh hF hqq hx hxl
  go_enter Try.func50, Try.ntmps50
  go_upto_region 3 with
    (at_builtin
     rw [HXL.out]
     go_must (refine wpList_append_sh _ rfl (.tmp 8) (.tmp 12) 30 rfl base 3 i0 (.int .i64 0) 1 8 Try.underlying30 hi0 hz0 hz1 hz2 rfl (by decide) A q c (last.map (Value.int .i64)) rfl (HSH.out.keep fun _ _ _ hb => hb.alloc _) w.heap.size 1 3 #[.int .i64 x] rfl (Bk.new w 3 _) rfl ?c1 (q + 1) rfl ?c2 ?c3 ?c4 ?_)
     case c1 => simp [Value.oneCell']
     case c2 => unfold maxLen; omega
     case c3 => omega
     case c4 => (simp; omega)
     intro gA pre post c' w1 hbg hbA hc1 hc2 hpo hgr hat
     have HM : Hid (MidSt w (w1.setCell ⟨g, 3, none⟩ (.slice (some ⟨gA, pre.length, none⟩) (q + 1) c')) base F g low high now (last ++ [x]) calm (some ⟨gA, pre.length, none⟩) (q + 1) c') := Lib.hid (mid_app HBK.out HSH.out HF.out HLO.out HQ.out hbg hbA.out hc1 hc2 hpo.out hgr hat)
     have hk1 := (HBK.out.alloc (.cells #[.int .i64 x] 3)).grown hgr (HSH.out.ne HBK.out (by decide))
     have n3 := hk1.cell 3
     have e3 := hk1.frozen 3
     simp only [List.getElem?_toArray, List.getElem?_cons_zero, List.getElem?_cons_succ] at n3
     clear hbA hpo hgr hat hk1)
  generalize w1.setCell ⟨g, 3, none⟩ (.slice (some ⟨gA, pre.length, none⟩) (q + 1) c') = w2 at *
  clear m0 m1 m2 m3 m4 n3 e3
  have m0 := HM.out.bk.cell 0
  have m1 := HM.out.bk.cell 1
  have m2 := HM.out.bk.cell 2
  have m3 := HM.out.bk.cell 3
  have m4 := HM.out.bk.cell 4
  have e2 := HM.out.bk.frozen 2
  have e3 := HM.out.bk.frozen 3
  have e4 := HM.out.bk.frozen 4
  simp only [List.getElem?_toArray, List.getElem?_cons_zero, List.getElem?_cons_succ] at m0 m1 m2 m3 m4
  have hk1 : 0 < min late 20 := by omega
  have hk2 : min late 20 ≤ 20 := by omega
  go_wp2_with fail
  go_region
  go_wp2_with fail
  refine bodyPost_ret (results_none rfl _ _ _) rfl ?_
  exact HM.out.reset _

set_option maxHeartbeats 1600000 in
theorem note_pos_n {w : World} {base g : Nat} {F : List Nat} {low high now : Int} {a9 : Int} {l9 : List Int} {calm : Nat} (late : Int) (h : DlSt w base F g low high now (a9 :: l9) calm) (hq : (a9 :: l9).length = 9) (hcm : calm ≤ 1000000000000000) (hl0 : 0 ≤ low) (hl1 : low ≤ now) (hl2 : now ≤ high) (hl3 : high ≤ 20) (hbs : base ≤ w.heap.size) (hp : 0 < late) :
    Calls Try.prog 50 #[.pointer (some ⟨g, 0, none⟩), .int .i64 late] w (NoteP w base F g low high (min (now + min late 20) high, [], 0)) := by
  obtain ⟨i0, hi0, hz0, hz1, hz2⟩ := info_parts T.info3
  have HLO := Lib.hid h.lo
  obtain ⟨⟨A, c, hbk, hsh, hF⟩, -⟩ := h
  obtain ⟨q, hqq⟩ : ∃ q, q = (a9 :: l9).length := ⟨_, rfl⟩
  rw [← hqq] at hbk hsh hq
  subst hq
  obtain ⟨x, hx⟩ : ∃ x, x = clampN late := ⟨_, rfl⟩
  have hxl : min (max late (-20)) 20 = x := by rw [hx]; rfl
  have m0 := hbk.cell 0
  have m1 := hbk.cell 1
  have m2 := hbk.cell 2
  have m3 := hbk.cell 3
  have m4 := hbk.cell 4
  simp only [List.getElem?_toArray, List.getElem?_cons_zero, List.getElem?_cons_succ] at m0 m1 m2 m3 m4
  have HBK := Lib.hid hbk
  have HSH := Lib.hid hsh
  have HF := Lib.hid hF
  have HQ := Lib.hid hqq
  have HX := Lib.hid hx
  have HXL := Lib.hid hxl
  clear hbk hsh hF hqq hx hxl
  go_enter Try.func50, Try.ntmps50
  go_upto_region 3 with
    (at_builtin
     rw [HXL.out]
     go_must (refine wpList_append_sh _ rfl (.tmp 8) (.tmp 12) 30 rfl base 3 i0 (.int .i64 0) 1 8 Try.underlying30 hi0 hz0 hz1 hz2 rfl (by decide) A 9 c ((a9 :: l9).map (Value.int .i64)) rfl (HSH.out.keep fun _ _ _ hb => hb.alloc _) w.heap.size 1 3 #[.int .i64 x] rfl (Bk.new w 3 _) rfl ?c1 10 rfl ?c2 ?c3 ?c4 ?_)
     case c1 => simp [Value.oneCell']
     case c2 => unfold maxLen; omega
     case c3 => omega
     case c4 => (simp; omega)
     intro gA pre post c' w1 hbg hbA hc1 hc2 hpo hgr hat
     have HM : Hid (MidSt w (w1.setCell ⟨g, 3, none⟩ (.slice (some ⟨gA, pre.length, none⟩) 10 c')) base F g low high now (a9 :: l9 ++ [x]) calm (some ⟨gA, pre.length, none⟩) 10 c') := Lib.hid (mid_app HBK.out HSH.out HF.out HLO.out HQ.out hbg hbA.out hc1 hc2 hpo.out hgr hat)
     have hk1 := (HBK.out.alloc (.cells #[.int .i64 x] 3)).grown hgr (HSH.out.ne HBK.out (by decide))
     have n3 := hk1.cell 3
     have e3 := hk1.frozen 3
     simp only [List.getElem?_toArray, List.getElem?_cons_zero, List.getElem?_cons_succ] at n3
     clear hbA hpo hgr hat hk1)
  have HM' := Lib.hid (MidSt.cut (last := l9 ++ [x]) (n := 9) HM.out)
  clear HM
  have HM := HM'
  clear HM'
  generalize (w1.setCell ⟨g, 3, none⟩ (.slice (some ⟨gA, pre.length, none⟩) 10 c')).setCell ⟨g, 3, none⟩ (.slice (some ⟨gA, pre.length + 1, none⟩) 9 (c' - 1)) = w2 at *
  clear m0 m1 m2 m3 m4 n3 e3
  have m0 := HM.out.bk.cell 0
  have m1 := HM.out.bk.cell 1
  have m2 := HM.out.bk.cell 2
  have m3 := HM.out.bk.cell 3
  have m4 := HM.out.bk.cell 4
  have e2 := HM.out.bk.frozen 2
  have e3 := HM.out.bk.frozen 3
  have e4 := HM.out.bk.frozen 4
  simp only [List.getElem?_toArray, List.getElem?_cons_zero, List.getElem?_cons_succ] at m0 m1 m2 m3 m4
  have hk1 : 0 < min late 20 := by omega
  have hk2 : min late 20 ≤ 20 := by omega
  go_wp2_with fail
  go_region
  go_wp2_with fail
  refine bodyPost_ret (results_none rfl _ _ _) rfl ?_
  exact HM.out.reset _

set_option maxHeartbeats 1600000 in
theorem note_neg_s {w : World} {base g : Nat} {F : List Nat} {low high now : Int} {last : List Int} {calm : Nat} (late : Int) (h : DlSt w base F g low high now last calm) (hq : last.length ≤ 8) (hcm : calm ≤ 1000000000000000) (hl0 : 0 ≤ low) (hl1 : low ≤ now) (hl2 : now ≤ high) (hl3 : high ≤ 20) (hbs : base ≤ w.heap.size) (hp : ¬ 0 < late) (R : Int × List Int × Nat) (hR : R = if calm + 1 < 8 ∨ 0 ≤ medF (last ++ [clampN late]) then (now, last ++ [clampN late], calm + 1) else (max (now - 1) low, [], 0)) :
    Calls Try.prog 50 #[.pointer (some ⟨g, 0, none⟩), .int .i64 late] w (NoteP w base F g low high (R)) := by
  obtain ⟨i0, hi0, hz0, hz1, hz2⟩ := info_parts T.info3
  have HLO := Lib.hid h.lo
  obtain ⟨⟨A, c, hbk, hsh, hF⟩, -⟩ := h
  obtain ⟨q, hqq⟩ : ∃ q, q = last.length := ⟨_, rfl⟩
  rw [← hqq] at hbk hsh hq
  obtain ⟨x, hx⟩ : ∃ x, x = clampN late := ⟨_, rfl⟩
  rw [← hx] at hR
  have HR := Lib.hid hR
  clear hR
  have hxl : min (max late (-20)) 20 = x := by rw [hx]; rfl
  have m0 := hbk.cell 0
  have m1 := hbk.cell 1
  have m2 := hbk.cell 2
  have m3 := hbk.cell 3
  have m4 := hbk.cell 4
  simp only [List.getElem?_toArray, List.getElem?_cons_zero, List.getElem?_cons_succ] at m0 m1 m2 m3 m4
  have HBK := Lib.hid hbk
  have HSH := Lib.hid hsh
  have HF := Lib.hid hF
  have HQ := Lib.hid hqq
  have HX := Lib.hid hx
  have HXL := Lib.hid hxl
  clear hbk hsh hF hqq hx hxl
  go_enter Try.func50, Try.ntmps50
  go_upto_region 3 with
    (at_builtin
     rw [HXL.out]
     go_must (refine wpList_append_sh _ rfl (.tmp 8) (.tmp 12) 30 rfl base 3 i0 (.int .i64 0) 1 8 Try.underlying30 hi0 hz0 hz1 hz2 rfl (by decide) A q c (last.map (Value.int .i64)) rfl (HSH.out.keep fun _ _ _ hb => hb.alloc _) w.heap.size 1 3 #[.int .i64 x] rfl (Bk.new w 3 _) rfl ?c1 (q + 1) rfl ?c2 ?c3 ?c4 ?_)
     case c1 => simp [Value.oneCell']
     case c2 => unfold maxLen; omega
     case c3 => omega
     case c4 => (simp; omega)
     intro gA pre post c' w1 hbg hbA hc1 hc2 hpo hgr hat
     have HM : Hid (MidSt w (w1.setCell ⟨g, 3, none⟩ (.slice (some ⟨gA, pre.length, none⟩) (q + 1) c')) base F g low high now (last ++ [x]) calm (some ⟨gA, pre.length, none⟩) (q + 1) c') := Lib.hid (mid_app HBK.out HSH.out HF.out HLO.out HQ.out hbg hbA.out hc1 hc2 hpo.out hgr hat)
     have hk1 := (HBK.out.alloc (.cells #[.int .i64 x] 3)).grown hgr (HSH.out.ne HBK.out (by decide))
     have n3 := hk1.cell 3
     have e3 := hk1.frozen 3
     simp only [List.getElem?_toArray, List.getElem?_cons_zero, List.getElem?_cons_succ] at n3
     clear hbA hpo hgr hat hk1)
  generalize w1.setCell ⟨g, 3, none⟩ (.slice (some ⟨gA, pre.length, none⟩) (q + 1) c') = w2 at *
  clear m0 m1 m2 m3 m4 n3 e3
  have m0 := HM.out.bk.cell 0
  have m1 := HM.out.bk.cell 1
  have m2 := HM.out.bk.cell 2
  have m3 := HM.out.bk.cell 3
  have m4 := HM.out.bk.cell 4
  have e2 := HM.out.bk.frozen 2
  have e3 := HM.out.bk.frozen 3
  have e4 := HM.out.bk.frozen 4
  simp only [List.getElem?_toArray, List.getElem?_cons_zero, List.getElem?_cons_succ] at m0 m1 m2 m3 m4
  have hq0 : (calm : Int) ≤ 1000000000000000 := by omega
  clear hcm
  by_cases hc8 : calm + 1 < 8
  · go_wp2_with fail
    refine bodyPost_ret (results_none rfl _ _ _) rfl ?_
    rw [HR.out, if_pos (.inl hc8)]
    exact (HM.out.set4 calm).end_
  · have hM3 := HM.out.set4 calm
    obtain ⟨w3, hw3⟩ : ∃ w3, w3 = w2.setCell ⟨g, 4, none⟩ (.int .i64 ((calm : Int) + 1)) := ⟨_, rfl⟩
    rw [← hw3] at hM3
    have hmed := median_any hM3.dl (by simp) (by have := HQ.out; simp; omega)
    have hR2 := HR.out
    clear HR
    generalize hmd : medF (last ++ [x]) = md at *
    have HR := Lib.hid hR2
    clear hR2
    have HM3 := Lib.hid hM3
    have HW3 := Lib.hid hw3
    have HMED := Lib.hid hmed
    clear hmed hmd HM hM3 hw3
    have hc9 : ¬ (calm : Int) + 1 < 8 := by omega
    go_wp2_with fail
    rw [← HW3.out]
    refine HMED.out.mono ?_
    rintro e w4 ⟨rfl, hb4⟩
    have HM4 := Lib.hid (HM3.out.below hb4)
    clear hb4
    by_cases hmd : 0 ≤ md
    · go_wp2_with fail
      refine bodyPost_ret (results_none rfl _ _ _) rfl ?_
      rw [HR.out, if_pos (.inr hmd)]
      exact HM4.out.end_
    · have m0 := HM4.out.bk.cell 0
      have m1 := HM4.out.bk.cell 1
      have m2 := HM4.out.bk.cell 2
      have m3 := HM4.out.bk.cell 3
      have m4 := HM4.out.bk.cell 4
      have e2 := HM4.out.bk.frozen 2
      have e3 := HM4.out.bk.frozen 3
      have e4 := HM4.out.bk.frozen 4
      simp only [List.getElem?_toArray, List.getElem?_cons_zero, List.getElem?_cons_succ] at m0 m1 m2 m3 m4
      go_wp2_with fail
      go_region
      go_wp2_with fail
      refine bodyPost_ret (results_none rfl _ _ _) rfl ?_
      rw [HR.out, if_neg (by omega)]
      exact HM4.out.reset _

set_option maxHeartbeats 1600000 in
theorem note_neg_n {w : World} {base g : Nat} {F : List Nat} {low high now : Int} {a9 : Int} {l9 : List Int} {calm : Nat} (late : Int) (h : DlSt w base F g low high now (a9 :: l9) calm) (hq : (a9 :: l9).length = 9) (hcm : calm ≤ 1000000000000000) (hl0 : 0 ≤ low) (hl1 : low ≤ now) (hl2 : now ≤ high) (hl3 : high ≤ 20) (hbs : base ≤ w.heap.size) (hp : ¬ 0 < late) (R : Int × List Int × Nat) (hR : R = if calm + 1 < 8 ∨ 0 ≤ medF (l9 ++ [clampN late]) then (now, l9 ++ [clampN late], calm + 1) else (max (now - 1) low, [], 0)) :
    Calls Try.prog 50 #[.pointer (some ⟨g, 0, none⟩), .int .i64 late] w (NoteP w base F g low high (R)) := by
  obtain ⟨i0, hi0, hz0, hz1, hz2⟩ := info_parts T.info3
  have HLO := Lib.hid h.lo
  obtain ⟨⟨A, c, hbk, hsh, hF⟩, -⟩ := h
  obtain ⟨q, hqq⟩ : ∃ q, q = (a9 :: l9).length := ⟨_, rfl⟩
  rw [← hqq] at hbk hsh hq
  subst hq
  obtain ⟨x, hx⟩ : ∃ x, x = clampN late := ⟨_, rfl⟩
  rw [← hx] at hR
  have HR := Lib.hid hR
  clear hR
  have hxl : min (max late (-20)) 20 = x := by rw [hx]; rfl
  have m0 := hbk.cell 0
  have m1 := hbk.cell 1
  have m2 := hbk.cell 2
  have m3 := hbk.cell 3
  have m4 := hbk.cell 4
  simp only [List.getElem?_toArray, List.getElem?_cons_zero, List.getElem?_cons_succ] at m0 m1 m2 m3 m4
  have HBK := Lib.hid hbk
  have HSH := Lib.hid hsh
  have HF := Lib.hid hF
  have HQ := Lib.hid hqq
  have HX := Lib.hid hx
  have HXL := Lib.hid hxl
  clear hbk hsh hF hqq hx hxl
  go_enter Try.func50, Try.ntmps50
  go_upto_region 3 with
    (at_builtin
     rw [HXL.out]
     go_must (refine wpList_append_sh _ rfl (.tmp 8) (.tmp 12) 30 rfl base 3 i0 (.int .i64 0) 1 8 Try.underlying30 hi0 hz0 hz1 hz2 rfl (by decide) A 9 c ((a9 :: l9).map (Value.int .i64)) rfl (HSH.out.keep fun _ _ _ hb => hb.alloc _) w.heap.size 1 3 #[.int .i64 x] rfl (Bk.new w 3 _) rfl ?c1 10 rfl ?c2 ?c3 ?c4 ?_)
     case c1 => simp [Value.oneCell']
     case c2 => unfold maxLen; omega
     case c3 => omega
     case c4 => (simp; omega)
     intro gA pre post c' w1 hbg hbA hc1 hc2 hpo hgr hat
     have HM : Hid (MidSt w (w1.setCell ⟨g, 3, none⟩ (.slice (some ⟨gA, pre.length, none⟩) 10 c')) base F g low high now (a9 :: l9 ++ [x]) calm (some ⟨gA, pre.length, none⟩) 10 c') := Lib.hid (mid_app HBK.out HSH.out HF.out HLO.out HQ.out hbg hbA.out hc1 hc2 hpo.out hgr hat)
     have hk1 := (HBK.out.alloc (.cells #[.int .i64 x] 3)).grown hgr (HSH.out.ne HBK.out (by decide))
     have n3 := hk1.cell 3
     have e3 := hk1.frozen 3
     simp only [List.getElem?_toArray, List.getElem?_cons_zero, List.getElem?_cons_succ] at n3
     clear hbA hpo hgr hat hk1)
  have HM' := Lib.hid (MidSt.cut (last := l9 ++ [x]) (n := 9) HM.out)
  clear HM
  have HM := HM'
  clear HM'
  generalize (w1.setCell ⟨g, 3, none⟩ (.slice (some ⟨gA, pre.length, none⟩) 10 c')).setCell ⟨g, 3, none⟩ (.slice (some ⟨gA, pre.length + 1, none⟩) 9 (c' - 1)) = w2 at *
  clear m0 m1 m2 m3 m4 n3 e3
  have m0 := HM.out.bk.cell 0
  have m1 := HM.out.bk.cell 1
  have m2 := HM.out.bk.cell 2
  have m3 := HM.out.bk.cell 3
  have m4 := HM.out.bk.cell 4
  have e2 := HM.out.bk.frozen 2
  have e3 := HM.out.bk.frozen 3
  have e4 := HM.out.bk.frozen 4
  simp only [List.getElem?_toArray, List.getElem?_cons_zero, List.getElem?_cons_succ] at m0 m1 m2 m3 m4
  have hq0 : (calm : Int) ≤ 1000000000000000 := by omega
  clear hcm
  by_cases hc8 : calm + 1 < 8
  · go_wp2_with fail
    refine bodyPost_ret (results_none rfl _ _ _) rfl ?_
    rw [HR.out, if_pos (.inl hc8)]
    exact (HM.out.set4 calm).end_
  · have hM3 := HM.out.set4 calm
    obtain ⟨w3, hw3⟩ : ∃ w3, w3 = w2.setCell ⟨g, 4, none⟩ (.int .i64 ((calm : Int) + 1)) := ⟨_, rfl⟩
    rw [← hw3] at hM3
    have hmed := median_any hM3.dl (by simp) (by have := HQ.out; simp at this ⊢; omega)
    have hR2 := HR.out
    clear HR
    generalize hmd : medF (l9 ++ [x]) = md at *
    have HR := Lib.hid hR2
    clear hR2
    have HM3 := Lib.hid hM3
    have HW3 := Lib.hid hw3
    have HMED := Lib.hid hmed
    clear hmed hmd HM hM3 hw3
    have hc9 : ¬ (calm : Int) + 1 < 8 := by omega
    go_wp2_with fail
    rw [← HW3.out]
    refine HMED.out.mono ?_
    rintro e w4 ⟨rfl, hb4⟩
    have HM4 := Lib.hid (HM3.out.below hb4)
    clear hb4
    by_cases hmd : 0 ≤ md
    · go_wp2_with fail
      refine bodyPost_ret (results_none rfl _ _ _) rfl ?_
      rw [HR.out, if_pos (.inr hmd)]
      exact HM4.out.end_
    · have m0 := HM4.out.bk.cell 0
      have m1 := HM4.out.bk.cell 1
      have m2 := HM4.out.bk.cell 2
      have m3 := HM4.out.bk.cell 3
      have m4 := HM4.out.bk.cell 4
      have e2 := HM4.out.bk.frozen 2
      have e3 := HM4.out.bk.frozen 3
      have e4 := HM4.out.bk.frozen 4
      simp only [List.getElem?_toArray, List.getElem?_cons_zero, List.getElem?_cons_succ] at m0 m1 m2 m3 m4
      go_wp2_with fail
      go_region
      go_wp2_with fail
      refine bodyPost_ret (results_none rfl _ _ _) rfl ?_
      rw [HR.out, if_neg (by omega)]
      exact HM4.out.reset _

theorem note_any {w : World} {base g : Nat} {F : List Nat} {low high now : Int} {last : List Int} {calm : Nat} (late : Int) (h : DlSt w base F g low high now last calm) (h9 : last.length ≤ 9) (hcm : calm ≤ 1000000000000000) (hl0 : 0 ≤ low) (hl1 : low ≤ now) (hl2 : now ≤ high) (hl3 : high ≤ 20) (hbs : base ≤ w.heap.size) :
    Calls Try.prog 50 #[.pointer (some ⟨g, 0, none⟩), .int .i64 late] w (NoteP w base F g low high (noteF low high now last calm late)) := by
  by_cases hp : 0 < late
  · unfold noteF
    rw [if_pos hp]
    by_cases h8 : last.length ≤ 8
    · exact note_pos_s late h h8 hcm hl0 hl1 hl2 hl3 hbs hp
    · cases last with
      | nil => simp at h8
      | cons a l => exact note_pos_n late h (by omega) hcm hl0 hl1 hl2 hl3 hbs hp
  · unfold noteF
    rw [if_neg hp]
    by_cases h8 : last.length ≤ 8
    · rw [last9_small h8]
      exact note_neg_s late h h8 hcm hl0 hl1 hl2 hl3 hbs hp _ rfl
    · cases last with
      | nil => simp at h8
      | cons a l =>
        rw [last9_nine (by simp at h8 h9; omega)]
        exact note_neg_n late h (by omega) hcm hl0 hl1 hl2 hl3 hbs hp _ rfl
end Go.Proofs.Ytnidcmhfbkdioaa
