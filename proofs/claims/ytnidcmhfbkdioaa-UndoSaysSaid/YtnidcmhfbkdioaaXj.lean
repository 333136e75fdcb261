/-
  The contracts of undo.Undo and Redo where there is a step. Conditions: worlds that can be read, of bounded sizes; numbers that fit.
-/
import Derived.Test.YtnidcmhfbkdioaaXi
namespace Go.Proofs.Ytnidcmhfbkdioaa
open Go.RowKit
set_option maxRecDepth 100000

theorem step_append_st {ops : Array Oper} {E : Prop} {o : Oper} {a : Act} {w : World} {K : Act → World → Prop} {Q : Exit → Act → World → Prop} {base n c b c1 : Nat} {A : Option Addr} {D : List StM} {cs : Array Value} (hgd : o.guard = none) (s x : Operand)
    (ho : o.op = .call { callee := .builtin .append, args := #[s, x], argTypes := #[261, 261] }) (hr : RowM w base A n c D) (hs : a.eval s = .slice A n c) (hx : a.eval x = .slice (some ⟨b, 0, none⟩) 1 c1) (hb : Bk w b 265 cs) (hcs : cs.size = 3) (h1 : ∀ u ∈ cs.toList, u.oneCell' = true)
    (hsm : n < 1000000) (hbase : base ≤ w.heap.size)
    (h : ∀ g' o' c' w', OwnO w' base 265 3 (some ⟨g', o', none⟩) (n + 1) c' (stCs D ++ cs.toList) → w.grownBy w' (Value.slice A n c).ownBlock → ((Value.slice A n c).ownBlock = some g' ∨ w.heap.size ≤ g') → K (a.put o.dst (.slice (some ⟨g', o', none⟩) (n + 1) c')) w') :
    if Region.wanted o (yielded ops a.tmps) = true then Oper.wp Try.prog o a w K Q else E := by
  rw [if_pos (by simp [Region.wanted, hgd])]
  exact opw_append_st hgd s x ho hr hs hx hb hcs h1 hsm hbase h
theorem HsB.far {w w' : World} {hb : Nat} {x : Wd} {R1 R2 : Value} (h : HsB w hb x R1 R2) (hb' : Below w.heap.size w w') : HsB w' hb x R1 R2 := Bk.below h hb' (Bk.lt h)

theorem hist_grow {w2 w7 : World} {hb base cn cc rn rc g7 o7 c7 : Nat} {cA rA : Option Addr} {C R : List StM} {s : StM} {y : Wd} {hc : Array Value} (hbk : Bk w2 hb 263 hc) (hy : WdY w2 0 y) (hcut : RowM w2 base cA cn cc C) (hgro : RowM (w2.alloc (.cells #[.string s.nm, .slice s.oA s.on s.oc, .slice s.bA s.bn s.bc] 265)).drew base rA rn rc R) (hst : StY w2 s)
    (hown : OwnO w7 base 265 3 (some ⟨g7, o7, none⟩) (rn + 1) c7 (stCs R ++ [.string s.nm, .slice s.oA s.on s.oc, .slice s.bA s.bn s.bc])) (hg : (w2.alloc (.cells #[.string s.nm, .slice s.oA s.on s.oc, .slice s.bA s.bn s.bc] 265)).drew.grownBy w7 (Value.slice rA rn rc).ownBlock) (hat : (Value.slice rA rn rc).ownBlock = some g7 ∨ (w2.alloc (.cells #[.string s.nm, .slice s.oA s.on s.oc, .slice s.bA s.bn s.bc] 265)).drew.heap.size ≤ g7)
    (hne : ∀ q, (Value.slice cA cn cc).ownBlock = some q → (Value.slice rA rn rc).ownBlock ≠ some q) :
    RowM w7 base cA cn cc C ∧ RowM w7 base (some ⟨g7, o7, none⟩) (rn + 1) c7 (R ++ [s]) ∧ WdY w7 0 y ∧ Bk w7 hb 263 hc ∧ (∀ q, (Value.slice cA cn cc).ownBlock = some q → (Value.slice (some ⟨g7, o7, none⟩) (rn + 1) c7).ownBlock ≠ some q) ∧ Kx base [263, 265] w2 w7 := by
  have hk0 : Kx 0 [] w2 (w2.alloc (.cells #[.string s.nm, .slice s.oA s.on s.oc, .slice s.bA s.bn s.bc] 265)).drew := (Kx.refl.alloc _).drew
  have hk7 : Kx base [265] (w2.alloc (.cells #[.string s.nm, .slice s.oA s.on s.oc, .slice s.bA s.bn s.bc] 265)).drew w7 := ⟨hg.size, fun b h1 h2 => hg.block b h2 (fun e => by have := (hgro.ty b e.symm).1; omega), fun b t cs h1 h2 => h1.grown hg (fun e => by
    obtain ⟨_, cs', h3⟩ := hgro.ty b e.symm
    exact Bk.ne_ h1 h3 (fun e => h2 (by rw [e]; simp)) rfl)⟩
  have hk70 : Kx 0 [265] (w2.alloc (.cells #[.string s.nm, .slice s.oA s.on s.oc, .slice s.bA s.bn s.bc] 265)).drew w7 := hk7.mono (Nat.zero_le _) (fun _ h => h)
  have hst7 : StY w7 s := (hst.keep hk0 (by simp)).keep hk70 (by decide)
  have hlen : rn = R.length := hgro.len
  refine ⟨(hcut.keep hk0 (by simp) (by simp)).far hg (fun q hq e => hne q hq e) (fun x hx => ((hcut.sts x hx).keep hk0 (by simp)).keep hk70 (by decide)), RowM.own (by rw [stCs_app, stCs_one]; exact hown) (by rw [List.length_append, ← hlen]; rfl) (fun x hx => ?_), (hy.keep hk0 (by simp) (by simp) (by simp) (by simp) (by simp)).keep hk70 (by decide) (by decide) (by decide) (by decide) (by decide), hk70.bk (hk0.bk hbk (by simp)) (by decide), fun q hq e => ?_, ((Kx.refl.alloc _).drew).trans (hk7.mono (Nat.le_refl _) (fun t h => by simp at h; simp [h]))⟩
  · rcases List.mem_append.1 hx with h | h
    · exact (hgro.sts x h).keep hk70 (by decide)
    · have := List.mem_singleton.1 h
      subst this
      exact hst7
  · have e1 : g7 = q := by simpa [Value.ownBlock] using e
    subst e1
    rcases hat with h | h
    · exact hne g7 hq h
    · obtain ⟨_, cs, h1⟩ := hcut.ty g7 hq
      have h2 := h1.lt
      have h3 : w2.heap.size < (w2.alloc (.cells #[.string s.nm, .slice s.oA s.on s.oc, .slice s.bA s.bn s.bc] 265)).drew.heap.size := by show _ < (w2.alloc _).heap.size; simp
      omega

theorem hist_undo {w7 w2 : World} {hb base cn rn g7 o7 c7 : Nat} {cA : Option Addr} {C R : List StM} {s : StM} {y : Wd} {R1 R2 : Value} (hlo : base ≤ hb)
    (h : RowM w7 base cA cn cn C ∧ RowM w7 base (some ⟨g7, o7, none⟩) (rn + 1) c7 (R ++ [s]) ∧ WdY w7 0 y ∧ Bk w7 hb 263 #[.slice y.kA y.kn y.kc, .slice y.gA y.gn y.gc, .slice y.iA y.im y.ic, R1, R2] ∧ (∀ q, (Value.slice cA cn cn).ownBlock = some q → (Value.slice (some ⟨g7, o7, none⟩) (rn + 1) c7).ownBlock ≠ some q) ∧ Kx base [263, 265] w2 w7) :
    HistY ((w7.setCell ⟨hb, 3, none⟩ (.slice cA cn cn)).setCell ⟨hb, 4, none⟩ (.slice (some ⟨g7, o7, none⟩) (rn + 1) c7)) hb base y cA cn cn C (some ⟨g7, o7, none⟩) (rn + 1) c7 (R ++ [s]) ∧ Kx base [263, 265] w2 ((w7.setCell ⟨hb, 3, none⟩ (.slice cA cn cn)).setCell ⟨hb, 4, none⟩ (.slice (some ⟨g7, o7, none⟩) (rn + 1) c7)) := by
  obtain ⟨h1, h2, h3, h4, h5, h6⟩ := h
  have z1 := h4.set_ 3 (Value.slice cA cn cn)
  have hK := ((Kx.refl (B := base) (F := [263])).set h4 hlo (by simp) 3 (Value.slice cA cn cn)).set z1 hlo (by simp) 4 (Value.slice (some ⟨g7, o7, none⟩) (rn + 1) c7)
  have hK0 := hK.mono (B' := 0) (G := [263]) (Nat.zero_le _) (fun _ h => h)
  exact ⟨⟨z1.set_ 4 _, h3.keep hK0 (by decide) (by decide) (by decide) (by decide) (by decide), h1.keep hK0 (by decide) (by decide), h2.keep hK0 (by decide) (by decide), h5, hlo⟩, h6.trans (hK.mono (Nat.le_refl _) (fun t h => by simp at h; simp [h]))⟩

theorem hist_redo {w7 w2 : World} {hb base cn rn g7 o7 c7 : Nat} {cA : Option Addr} {C R : List StM} {s : StM} {y : Wd} {R1 R2 : Value} (hlo : base ≤ hb)
    (h : RowM w7 base cA cn cn C ∧ RowM w7 base (some ⟨g7, o7, none⟩) (rn + 1) c7 (R ++ [s]) ∧ WdY w7 0 y ∧ Bk w7 hb 263 #[.slice y.kA y.kn y.kc, .slice y.gA y.gn y.gc, .slice y.iA y.im y.ic, R1, R2] ∧ (∀ q, (Value.slice cA cn cn).ownBlock = some q → (Value.slice (some ⟨g7, o7, none⟩) (rn + 1) c7).ownBlock ≠ some q) ∧ Kx base [263, 265] w2 w7) :
    HistY ((w7.setCell ⟨hb, 4, none⟩ (.slice cA cn cn)).setCell ⟨hb, 3, none⟩ (.slice (some ⟨g7, o7, none⟩) (rn + 1) c7)) hb base y (some ⟨g7, o7, none⟩) (rn + 1) c7 (R ++ [s]) cA cn cn C ∧ Kx base [263, 265] w2 ((w7.setCell ⟨hb, 4, none⟩ (.slice cA cn cn)).setCell ⟨hb, 3, none⟩ (.slice (some ⟨g7, o7, none⟩) (rn + 1) c7)) := by
  obtain ⟨h1, h2, h3, h4, h5, h6⟩ := h
  have z1 := h4.set_ 4 (Value.slice cA cn cn)
  have hK := ((Kx.refl (B := base) (F := [263])).set h4 hlo (by simp) 4 (Value.slice cA cn cn)).set z1 hlo (by simp) 3 (Value.slice (some ⟨g7, o7, none⟩) (rn + 1) c7)
  have hK0 := hK.mono (B' := 0) (G := [263]) (Nat.zero_le _) (fun _ h => h)
  exact ⟨⟨z1.set_ 3 _, h3.keep hK0 (by decide) (by decide) (by decide) (by decide) (by decide), h2.keep hK0 (by decide) (by decide), h1.keep hK0 (by decide) (by decide), (fun q hq e => h5 q e hq), hlo⟩, h6.trans (hK.mono (Nat.le_refl _) (fun t h => by simp at h; simp [h]))⟩

set_option maxHeartbeats 8000000 in
theorem undo_any (hb base : Nat) (x : Wd) (q : Wv Kp2) (s : StM) (dA gA : Option Addr) (dn dc gn gc : Nat) (D G : List StM) (w : World) (h : HistY w hb base x dA (dn + 1) dc (D ++ [s]) gA gn gc G) (gx : GoodW x.p) (gq : GoodW q) (hok : encOk (FW x.p) (FW q)) (hsb : s.bb = encD x.p q) (hsm : dn < 1000 ∧ gn < 1000) (hbase : base ≤ w.heap.size) :
    Calls Try.prog 85 #[.pointer (some ⟨hb, 0, none⟩)] w fun e w' => ∃ (y : Wd) (A' : Option Addr) (c' : Nat), e = .returned (.tuple #[.string s.nm, .int .i64 0]) ∧ Hid (HistY w' hb base y dA dn dn D A' (gn + 1) c' (G ++ [s]) ∧ y.p = q) ∧ Hid (Kz base w w') := by
  obtain ⟨hsm1, hsm2⟩ := hsm
  obtain ⟨b, o, hcA, hbl, l0, l1, l2⟩ := h.d.last
  have hdc : dn ≤ dc := by have := h.d.cap; omega
  have hbw : hb < w.heap.size := Bk.lt h.bk
  obtain ⟨W1, hW1⟩ : ∃ W1, W1 = w.alloc (.cells #[.string s.nm, .slice s.oA s.on s.oc, .slice s.bA s.bn s.bc] 265) := ⟨_, rfl⟩
  have hb1 : Below w.heap.size w W1 := by rw [hW1]; exact Below.al (Below.refl _ _) _
  have hk1 : Kx 0 [] w W1 := Kx.of_below hb1
  have hbx : Bk W1 w.heap.size 265 #[.string s.nm, .slice s.oA s.on s.oc, .slice s.bA s.bn s.bc] := by rw [hW1]; exact Bk.new _ _ _
  have hs1 : StY W1 s := (h.d.sts s (List.mem_append_right _ (List.mem_singleton.2 rfl))).keep hk1 (by simp)
  have HT := Lib.hid (turn_any hb x q _ _ s.bA s.bn s.bc W1 (h.bk.far hb1) (h.x.keep hk1 (by simp) (by simp) (by simp) (by simp) (by simp)) gx gq hok (by rw [← hsb]; exact hs1.b) (by rw [← hsb]; exact hs1.bn))
  have HH := Lib.hid h
  have HBX := Lib.hid hbx
  have HB1 := Lib.hid hb1
  have hbk : Bk w hb 263 #[.slice x.kA x.kn x.kc, .slice x.gA x.gn x.gc, .slice x.iA x.im x.ic, .slice dA (dn + 1) dc, .slice gA gn gc] := h.bk
  have a3 : w.cell? ⟨hb, 3, none⟩ = some (.slice dA (dn + 1) dc) := hbk.cell 3
  have HC := Lib.hid hcA
  have e2 : W1.cell? ⟨w.heap.size, 2, none⟩ = some (.slice s.bA s.bn s.bc) := hbx.cell 2
  subst hcA
  clear h gx gq hok hsb hb1 hk1 hbx hs1 hbk HC
  go_enter Try.func85, Try.ntmps85
  go_upto_region 5 with fail
  rw [← hW1]
  clear hW1 a3 l0 l1 l2
  go_wp2_with fail
  with_reducible refine (HT.out).mono ?_
  clear HT
  rintro e w2 ⟨y, rfl, HY, hg2⟩
  clear e2
  have hbk1 : Bk W1 hb 263 #[.slice x.kA x.kn x.kc, .slice x.gA x.gn x.gc, .slice x.iA x.im x.ic, .slice (some ⟨b, o, none⟩) (dn + 1) dc, .slice gA gn gc] := Bk.below HH.out.bk HB1.out hbw
  have hkz : Kx 0 [263] w w2 := ((Kx.of_below HB1.out).trans (Kx.gb hg2 hbk1 (Nat.zero_le _))).mono (Nat.le_refl _) (fun _ h => h)
  have hkb : Kx base [263, 265] w w2 := ((Kx.of_below HB1.out).trans (Kx.gb (B := base) hg2 hbk1 HH.out.lo)).mono (Nat.le_refl _) (fun _ h => by simp at h; simp [h])
  have hbk2 : Bk w2 hb 263 #[.slice y.kA y.kn y.kc, .slice y.gA y.gn y.gc, .slice y.iA y.im y.ic, .slice (some ⟨b, o, none⟩) (dn + 1) dc, .slice gA gn gc] := HY.out.1
  have hx2 : Bk w2 w.heap.size 265 #[.string s.nm, .slice s.oA s.on s.oc, .slice s.bA s.bn s.bc] := HBX.out.grown hg2 (fun e => by injection e with e; omega)
  have hcut := (HH.out.d.keep hkz (by decide) (by decide)).cut
  have hgro := HH.out.g.keep hkz (by decide) (by decide)
  have hst : StY w2 s := (HH.out.d.sts s (List.mem_append_right _ (List.mem_singleton.2 rfl))).keep hkz (by decide)
  obtain ⟨hx, hhx⟩ : ∃ hx, hx = w.heap.size := ⟨_, rfl⟩
  rw [← hhx] at hx2 ⊢
  have hw2 : w.heap.size < w2.heap.size := by have := hx2.lt; omega
  have c3 : w2.cell? ⟨hb, 3, none⟩ = some (.slice (some ⟨b, o, none⟩) (dn + 1) dc) := hbk2.cell 3
  have c4 : w2.cell? ⟨hb, 4, none⟩ = some (.slice gA gn gc) := hbk2.cell 4
  have m0 : w2.cell? ⟨hx, 0, none⟩ = some (.string s.nm) := hx2.cell 0
  have m1 : w2.cell? ⟨hx, 1, none⟩ = some (.slice s.oA s.on s.oc) := hx2.cell 1
  have m2 : w2.cell? ⟨hx, 2, none⟩ = some (.slice s.bA s.bn s.bc) := hx2.cell 2
  have q3 : (w2.alloc (.cells #[.string s.nm, .slice s.oA s.on s.oc, .slice s.bA s.bn s.bc] 265)).cell? ⟨hb, 3, none⟩ = some (.slice (some ⟨b, o, none⟩) (dn + 1) dc) := (hbk2.alloc _).cell 3
  have q4 : (w2.alloc (.cells #[.string s.nm, .slice s.oA s.on s.oc, .slice s.bA s.bn s.bc] 265)).cell? ⟨hb, 4, none⟩ = some (.slice gA gn gc) := (hbk2.alloc _).cell 4
  have HGR : Hid (RowM (w2.alloc (.cells #[.string s.nm, .slice s.oA s.on s.oc, .slice s.bA s.bn s.bc] 265)).drew base gA gn gc G) := Lib.hid (hgro.keep ((Kx.refl (B := 0) (F := [])).alloc _).drew (by simp) (by simp))
  have HCT := Lib.hid hcut
  have HBK2 := Lib.hid hbk2
  have HX2 := Lib.hid hx2
  have HST := Lib.hid hst
  have HG2 := Lib.hid hg2
  have HKB := Lib.hid hkb
  have HHX := Lib.hid hhx
  have HXR : Hid ((Value.slice gA gn gc).ownBlock ≠ some hx) := Lib.hid fun e => by obtain ⟨_, cs, h1⟩ := HH.out.g.ty hx e; have := h1.lt; omega
  have hxb : hx ≠ hb := by omega
  have hbx' : hb ≠ hx := by omega
  clear hbk1 hkz hkb hbk2 hx2 hcut hgro hst hg2 hhx
  go_upto_region 8 with fail
  go_region_law
    (refine step_append_st (c1 := 1) (cs := #[.string s.nm, .slice s.oA s.on s.oc, .slice s.bA s.bn s.bc]) rfl (.tmp 41) (.tmp 43) rfl HGR.out rfl rfl (Bk.drew (Bk.new w2 265 _)) rfl ?c1 ?c2 ?c3 ?_
     case c1 => simp [Value.oneCell']
     case c2 => omega
     case c3 => (simp; omega)
     intro g7 o7 c7 w7 hown7 hg7 hat7
     have hb7 := (Bk.drew (HBK2.out.alloc (.cells #[.string s.nm, .slice s.oA s.on s.oc, .slice s.bA s.bn s.bc] 265))).grown hg7 (fun e => by obtain ⟨_, cs, h1⟩ := HGR.out.ty hb e.symm; exact Bk.ne_ h1 (Bk.drew (HBK2.out.alloc _)) (by decide) rfl)
     have k3 : w7.cell? ⟨hb, 3, none⟩ = some (.slice (some ⟨b, o, none⟩) (dn + 1) dc) := hb7.cell 3
     have k4 : w7.cell? ⟨hb, 4, none⟩ = some (.slice gA gn gc) := hb7.cell 4
     have f3 := hb7.frozen 3
     have f4 := hb7.frozen 4)
  all_goals
    have HF := Lib.hid (hist_undo HH.out.lo (hist_grow HBK2.out HY.out.2.1 HCT.out HGR.out HST.out hown7 hg7 hat7 (fun q hq => HH.out.ne q (by exact hq))))
    have n0 : w7.cell? ⟨hx, 0, none⟩ = some (.string s.nm) := (((Bk.drew (HX2.out.alloc (.cells #[.string s.nm, .slice s.oA s.on s.oc, .slice s.bA s.bn s.bc] 265))).grown hg7 (fun e => HXR.out e.symm))).cell 0
    have HOS := Lib.hid (And.intro hg7.os (And.intro hg7.tape hg7.output))
    clear hown7 hg7 hat7 hb7 k3 k4 f3 f4
    go_wp2_with fail
    go_ret2
    first
      | exact ⟨y, _, _, rfl, Lib.hid ⟨HF.out.1, HY.out.2.2⟩, Lib.hid ⟨HOS.out.1.trans (HG2.out.os.trans HB1.out.os), HOS.out.2.1.trans (HG2.out.tape.trans HB1.out.tape), HOS.out.2.2.trans (HG2.out.output.trans HB1.out.output), HKB.out.trans HF.out.2⟩⟩
set_option maxHeartbeats 8000000 in
theorem redo_any (hb base : Nat) (x : Wd) (q : Wv Kp2) (s : StM) (dA gA : Option Addr) (dn dc gn gc : Nat) (D G : List StM) (w : World) (h : HistY w hb base x dA dn dc D gA (gn + 1) gc (G ++ [s])) (gx : GoodW x.p) (gq : GoodW q) (hok : encOk (FW x.p) (FW q)) (hsb : s.ob = encD x.p q) (hsm : dn < 1000 ∧ gn < 1000) (hbase : base ≤ w.heap.size) :
    Calls Try.prog 87 #[.pointer (some ⟨hb, 0, none⟩)] w fun e w' => ∃ (y : Wd) (A' : Option Addr) (c' : Nat), e = .returned (.tuple #[.string s.nm, .int .i64 0]) ∧ Hid (HistY w' hb base y A' (dn + 1) c' (D ++ [s]) gA gn gn G ∧ y.p = q) ∧ Hid (Kz base w w') := by
  obtain ⟨hsm1, hsm2⟩ := hsm
  obtain ⟨b, o, hcA, hbl, l0, l1, l2⟩ := h.g.last
  have hdc : gn ≤ gc := by have := h.g.cap; omega
  have hbw : hb < w.heap.size := Bk.lt h.bk
  obtain ⟨W1, hW1⟩ : ∃ W1, W1 = w.alloc (.cells #[.string s.nm, .slice s.oA s.on s.oc, .slice s.bA s.bn s.bc] 265) := ⟨_, rfl⟩
  have hb1 : Below w.heap.size w W1 := by rw [hW1]; exact Below.al (Below.refl _ _) _
  have hk1 : Kx 0 [] w W1 := Kx.of_below hb1
  have hbx : Bk W1 w.heap.size 265 #[.string s.nm, .slice s.oA s.on s.oc, .slice s.bA s.bn s.bc] := by rw [hW1]; exact Bk.new _ _ _
  have hs1 : StY W1 s := (h.g.sts s (List.mem_append_right _ (List.mem_singleton.2 rfl))).keep hk1 (by simp)
  have HT := Lib.hid (turn_any hb x q _ _ s.oA s.on s.oc W1 (h.bk.far hb1) (h.x.keep hk1 (by simp) (by simp) (by simp) (by simp) (by simp)) gx gq hok (by rw [← hsb]; exact hs1.o) (by rw [← hsb]; exact hs1.on))
  have HH := Lib.hid h
  have HBX := Lib.hid hbx
  have HB1 := Lib.hid hb1
  have hbk : Bk w hb 263 #[.slice x.kA x.kn x.kc, .slice x.gA x.gn x.gc, .slice x.iA x.im x.ic, .slice dA dn dc, .slice gA (gn + 1) gc] := h.bk
  have a3 : w.cell? ⟨hb, 4, none⟩ = some (.slice gA (gn + 1) gc) := hbk.cell 4
  have HC := Lib.hid hcA
  have e1 : W1.cell? ⟨w.heap.size, 1, none⟩ = some (.slice s.oA s.on s.oc) := hbx.cell 1
  subst hcA
  clear h gx gq hok hsb hb1 hk1 hbx hs1 hbk HC
  go_enter Try.func87, Try.ntmps87
  go_upto_region 5 with fail
  rw [← hW1]
  clear hW1 a3 l0 l1 l2
  go_wp2_with fail
  with_reducible refine (HT.out).mono ?_
  clear HT
  rintro e w2 ⟨y, rfl, HY, hg2⟩
  clear e1
  have hbk1 : Bk W1 hb 263 #[.slice x.kA x.kn x.kc, .slice x.gA x.gn x.gc, .slice x.iA x.im x.ic, .slice dA dn dc, .slice (some ⟨b, o, none⟩) (gn + 1) gc] := Bk.below HH.out.bk HB1.out hbw
  have hkz : Kx 0 [263] w w2 := ((Kx.of_below HB1.out).trans (Kx.gb hg2 hbk1 (Nat.zero_le _))).mono (Nat.le_refl _) (fun _ h => h)
  have hkb : Kx base [263, 265] w w2 := ((Kx.of_below HB1.out).trans (Kx.gb (B := base) hg2 hbk1 HH.out.lo)).mono (Nat.le_refl _) (fun _ h => by simp at h; simp [h])
  have hbk2 : Bk w2 hb 263 #[.slice y.kA y.kn y.kc, .slice y.gA y.gn y.gc, .slice y.iA y.im y.ic, .slice dA dn dc, .slice (some ⟨b, o, none⟩) (gn + 1) gc] := HY.out.1
  have hx2 : Bk w2 w.heap.size 265 #[.string s.nm, .slice s.oA s.on s.oc, .slice s.bA s.bn s.bc] := HBX.out.grown hg2 (fun e => by injection e with e; omega)
  have hcut := (HH.out.g.keep hkz (by decide) (by decide)).cut
  have hgro := HH.out.d.keep hkz (by decide) (by decide)
  have hst : StY w2 s := (HH.out.g.sts s (List.mem_append_right _ (List.mem_singleton.2 rfl))).keep hkz (by decide)
  obtain ⟨hx, hhx⟩ : ∃ hx, hx = w.heap.size := ⟨_, rfl⟩
  rw [← hhx] at hx2 ⊢
  have hw2 : w.heap.size < w2.heap.size := by have := hx2.lt; omega
  have c4 : w2.cell? ⟨hb, 4, none⟩ = some (.slice (some ⟨b, o, none⟩) (gn + 1) gc) := hbk2.cell 4
  have c3 : w2.cell? ⟨hb, 3, none⟩ = some (.slice dA dn dc) := hbk2.cell 3
  have m0 : w2.cell? ⟨hx, 0, none⟩ = some (.string s.nm) := hx2.cell 0
  have m1 : w2.cell? ⟨hx, 1, none⟩ = some (.slice s.oA s.on s.oc) := hx2.cell 1
  have m2 : w2.cell? ⟨hx, 2, none⟩ = some (.slice s.bA s.bn s.bc) := hx2.cell 2
  have q4 : (w2.alloc (.cells #[.string s.nm, .slice s.oA s.on s.oc, .slice s.bA s.bn s.bc] 265)).cell? ⟨hb, 4, none⟩ = some (.slice (some ⟨b, o, none⟩) (gn + 1) gc) := (hbk2.alloc _).cell 4
  have q3 : (w2.alloc (.cells #[.string s.nm, .slice s.oA s.on s.oc, .slice s.bA s.bn s.bc] 265)).cell? ⟨hb, 3, none⟩ = some (.slice dA dn dc) := (hbk2.alloc _).cell 3
  have HGR : Hid (RowM (w2.alloc (.cells #[.string s.nm, .slice s.oA s.on s.oc, .slice s.bA s.bn s.bc] 265)).drew base dA dn dc D) := Lib.hid (hgro.keep ((Kx.refl (B := 0) (F := [])).alloc _).drew (by simp) (by simp))
  have HCT := Lib.hid hcut
  have HBK2 := Lib.hid hbk2
  have HX2 := Lib.hid hx2
  have HST := Lib.hid hst
  have HG2 := Lib.hid hg2
  have HKB := Lib.hid hkb
  have HHX := Lib.hid hhx
  have HXR : Hid ((Value.slice dA dn dc).ownBlock ≠ some hx) := Lib.hid fun e => by obtain ⟨_, cs, h1⟩ := HH.out.d.ty hx e; have := h1.lt; omega
  have hxb : hx ≠ hb := by omega
  have hbx' : hb ≠ hx := by omega
  clear hbk1 hkz hkb hbk2 hx2 hcut hgro hst hg2 hhx
  go_upto_region 8 with fail
  go_region_law
    (refine step_append_st (c1 := 1) (cs := #[.string s.nm, .slice s.oA s.on s.oc, .slice s.bA s.bn s.bc]) rfl (.tmp 41) (.tmp 43) rfl HGR.out rfl rfl (Bk.drew (Bk.new w2 265 _)) rfl ?c1 ?c2 ?c3 ?_
     case c1 => simp [Value.oneCell']
     case c2 => omega
     case c3 => (simp; omega)
     intro g7 o7 c7 w7 hown7 hg7 hat7
     have hb7 := (Bk.drew (HBK2.out.alloc (.cells #[.string s.nm, .slice s.oA s.on s.oc, .slice s.bA s.bn s.bc] 265))).grown hg7 (fun e => by obtain ⟨_, cs, h1⟩ := HGR.out.ty hb e.symm; exact Bk.ne_ h1 (Bk.drew (HBK2.out.alloc _)) (by decide) rfl)
     have k4 : w7.cell? ⟨hb, 4, none⟩ = some (.slice (some ⟨b, o, none⟩) (gn + 1) gc) := hb7.cell 4
     have k3 : w7.cell? ⟨hb, 3, none⟩ = some (.slice dA dn dc) := hb7.cell 3
     have f3 := hb7.frozen 3
     have f4 := hb7.frozen 4)
  all_goals
    have HF := Lib.hid (hist_redo HH.out.lo (hist_grow HBK2.out HY.out.2.1 HCT.out HGR.out HST.out hown7 hg7 hat7 (fun q hq e => HH.out.ne q e (by exact hq))))
    have n0 : w7.cell? ⟨hx, 0, none⟩ = some (.string s.nm) := (((Bk.drew (HX2.out.alloc (.cells #[.string s.nm, .slice s.oA s.on s.oc, .slice s.bA s.bn s.bc] 265))).grown hg7 (fun e => HXR.out e.symm))).cell 0
    have HOS := Lib.hid (And.intro hg7.os (And.intro hg7.tape hg7.output))
    clear hown7 hg7 hat7 hb7 k3 k4 f3 f4
    go_wp2_with fail
    go_ret2
    first
      | exact ⟨y, _, _, rfl, Lib.hid ⟨HF.out.1, HY.out.2.2⟩, Lib.hid ⟨HOS.out.1.trans (HG2.out.os.trans HB1.out.os), HOS.out.2.1.trans (HG2.out.tape.trans HB1.out.tape), HOS.out.2.2.trans (HG2.out.output.trans HB1.out.output), HKB.out.trans HF.out.2⟩⟩
end Go.Proofs.Ytnidcmhfbkdioaa
