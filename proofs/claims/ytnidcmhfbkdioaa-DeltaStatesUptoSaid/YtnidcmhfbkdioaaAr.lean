/-
  The law DeltaStates gives true. Conditions: the states can be read, and have at most 1048576 numbers each.
-/
import Derived.Test.YtnidcmhfbkdioaaAq
import Derived.Test.YtnidcmhfbkdioaaAi
import Derived.Test.YtnidcmhfbkdioaaAk
namespace Go.Proofs.Ytnidcmhfbkdioaa
open Go.RowKit
set_option maxRecDepth 100000

theorem T.info80S : (Try.prog.info? 80).map (fun i => (i.zero, i.size, i.bytes)) = some (some (.agg #[.int .i64 0, .slice none 0 0, .slice none 0 0, .slice none 0 0, .slice none 0 0, .slice none 0 0, .slice none 0 0]), 7, 152) := by kernel_rfl
/-- The three states in their boxes. -/
structure DsB (w wx : World) (y1 y2 y3 : Sm) : Prop where
  b1 : Bk wx w.heap.size 80 y1.cs
  b2 : Bk wx (w.heap.size + 1) 80 y2.cs
  b3 : Bk wx (w.heap.size + 1 + 1) 80 y3.cs
  bel : Below w.heap.size w wx
theorem DsB.below {w wx wy : World} {y1 y2 y3 : Sm} (h : DsB w wx y1 y2 y3) (hb : Below wx.heap.size wx wy) : DsB w wy y1 y2 y3 :=
  ⟨h.b1.below hb h.b1.lt, h.b2.below hb h.b2.lt, h.b3.below hb h.b3.lt, h.bel.trans (hb.mono h.bel.size)⟩
/-- A block of seven cells that is stored anew. -/
theorem store7 {w : World} {g : Nat} {cs : Array Value} (hb : Bk w g 80 cs) (hc : cs.size = 7) (v0 v1 v2 v3 v4 v5 v6 : Value) :
    Bk (((((((w.setCell ⟨g, 0, none⟩ v0).setCell ⟨g, 1, none⟩ v1).setCell ⟨g, 2, none⟩ v2).setCell ⟨g, 3, none⟩ v3).setCell ⟨g, 4, none⟩ v4).setCell ⟨g, 5, none⟩ v5).setCell ⟨g, 6, none⟩ v6) g 80 #[v0, v1, v2, v3, v4, v5, v6] := by
  obtain ⟨l⟩ := cs
  match l, hc with
  | [a0, a1, a2, a3, a4, a5, a6], _ =>
    have h0 : Bk _ g 80 #[v0, a1, a2, a3, a4, a5, a6] := hb.set_ 0 v0
    have h1 : Bk _ g 80 #[v0, v1, a2, a3, a4, a5, a6] := h0.set_ 1 v1
    have h2 : Bk _ g 80 #[v0, v1, v2, a3, a4, a5, a6] := h1.set_ 2 v2
    have h3 : Bk _ g 80 #[v0, v1, v2, v3, a4, a5, a6] := h2.set_ 3 v3
    have h4 : Bk _ g 80 #[v0, v1, v2, v3, v4, a5, a6] := h3.set_ 4 v4
    have h5 : Bk _ g 80 #[v0, v1, v2, v3, v4, v5, a6] := h4.set_ 5 v5
    exact h5.set_ 6 v6
theorem far7 {w : World} {g k : Nat} {t : TypeId} {cs : Array Value} (hb : Bk w k t cs) (hk : k ≠ g) (v0 v1 v2 v3 v4 v5 v6 : Value) :
    Bk (((((((w.setCell ⟨g, 0, none⟩ v0).setCell ⟨g, 1, none⟩ v1).setCell ⟨g, 2, none⟩ v2).setCell ⟨g, 3, none⟩ v3).setCell ⟨g, 4, none⟩ v4).setCell ⟨g, 5, none⟩ v5).setCell ⟨g, 6, none⟩ v6) k t cs :=
  (((((((hb.far (p := ⟨g, 0, none⟩) hk _).far (p := ⟨g, 1, none⟩) hk _).far (p := ⟨g, 2, none⟩) hk _).far (p := ⟨g, 3, none⟩) hk _).far (p := ⟨g, 4, none⟩) hk _).far (p := ⟨g, 5, none⟩) hk _).far (p := ⟨g, 6, none⟩) hk _)
theorem below7 {w0 w : World} {B g : Nat} (hb : Below B w0 w) (hg : B ≤ g) (v0 v1 v2 v3 v4 v5 v6 : Value) :
    Below B w0 (((((((w.setCell ⟨g, 0, none⟩ v0).setCell ⟨g, 1, none⟩ v1).setCell ⟨g, 2, none⟩ v2).setCell ⟨g, 3, none⟩ v3).setCell ⟨g, 4, none⟩ v4).setCell ⟨g, 5, none⟩ v5).setCell ⟨g, 6, none⟩ v6) := by
  have one : ∀ (i : Nat) (v : Value) (w' : World), Below B w0 w' → Below B w0 (w'.setCell ⟨g, i, none⟩ v) := fun i v w' h => ⟨h.os, h.tape, h.output, by simpa [World.setCell] using h.size, fun k hk => (Below.heap_setCell _ _ _ _ (by show k ≠ g; omega)).trans (h.block k hk)⟩
  exact one _ _ _ (one _ _ _ (one _ _ _ (one _ _ _ (one _ _ _ (one _ _ _ (one _ _ _ hb))))))
theorem SmO.up {w : World} {B B' : Nat} {x : Sm} (h : SmO w B x) (hB : B ≤ B') (hB' : B' ≤ w.heap.size) : SmO w B' x :=
  ⟨h.d.more hB hB', ⟨h.c.rd.more hB, h.c.len, h.c.cap, h.c.cap2, h.c.ok⟩, ⟨h.m.rd.more hB, h.m.len, h.m.cap, h.m.cap2, fun x hx => ⟨(h.m.ok x hx).rd.more hB, (h.m.ok x hx).len, (h.m.ok x hx).cap, (h.m.ok x hx).cap2⟩⟩, ⟨h.e.rd.more hB, h.e.len, h.e.cap, h.e.cap2, h.e.ok⟩⟩
theorem SmO.at_ {w wx : World} {x : Sm} (h : SmO w w.heap.size x) (hb : Below w.heap.size w wx) : SmO wx wx.heap.size x := (h.below hb).up hb.size (Nat.le_refl _)
theorem kx7 {w0 w : World} {g : Nat} {cs : Array Value} (hk : Kx 0 [80] w0 w) (hb : Bk w g 80 cs) (v0 v1 v2 v3 v4 v5 v6 : Value) :
    Kx 0 [80] w0 (((((((w.setCell ⟨g, 0, none⟩ v0).setCell ⟨g, 1, none⟩ v1).setCell ⟨g, 2, none⟩ v2).setCell ⟨g, 3, none⟩ v3).setCell ⟨g, 4, none⟩ v4).setCell ⟨g, 5, none⟩ v5).setCell ⟨g, 6, none⟩ v6) := by
  have z0 := hb.set_ 0 v0
  have z1 := z0.set_ 1 v1
  have z2 := z1.set_ 2 v2
  have z3 := z2.set_ 3 v3
  have z4 := z3.set_ 4 v4
  have z5 := z4.set_ 5 v5
  exact ((((((hk.set hb (Nat.zero_le _) (by simp) 0 v0).set z0 (Nat.zero_le _) (by simp) 1 v1).set z1 (Nat.zero_le _) (by simp) 2 v2).set z2 (Nat.zero_le _) (by simp) 3 v3).set z3 (Nat.zero_le _) (by simp) 4 v4).set z4 (Nat.zero_le _) (by simp) 5 v5).set z5 (Nat.zero_le _) (by simp) 6 v6
/-- The two states are the same. -/
theorem sameL_any (x y : Sm) (w : World) (hx : SmO w w.heap.size x) (hy : SmO w w.heap.size y) (sx : (flatS x.p).length ≤ 1048576) (sy : (flatS y.p).length ≤ 1048576) (rx : i64r (flatS x.p)) (ry : i64r (flatS y.p)) :
    Calls Try.prog 47 #[.agg x.cs, .agg y.cs] w fun e w' => e = .returned (.bool (decide (flatS x.p = flatS y.p))) ∧ Below w.heap.size w w' :=
  same_gen x.T x.d.kA x.d.kn x.d.kc x.d.gA x.d.gn x.d.gc x.d.iA x.d.im x.d.ic x.cA x.cn x.cc x.mA x.mn x.mc x.eA x.en x.ec y.T y.d.kA y.d.kn y.d.kc y.d.gA y.d.gn y.d.gc y.d.iA y.d.im y.d.ic y.cA y.cn y.cc y.mA y.mn y.mc y.eA y.en y.ec (flatS x.p) (flatS y.p) w (fun wz hb => numsG_any x w.heap.size wz (hx.below hb) hb.size (by omega)) (fun wz hb => numsG_any y w.heap.size wz (hy.below hb) hb.size (by omega)) rx ry

set_option maxHeartbeats 16000000 in
theorem deltaStates_any (y1 y2 y3 : Sm) (w : World) (h1 : SmO w w.heap.size y1) (h2 : SmO w w.heap.size y2) (h3 : SmO w w.heap.size y3) (r1 : i64r (flatS y1.p)) (r2 : i64r (flatS y2.p)) (r3 : i64r (flatS y3.p))
    (s1 : (flatS y1.p).length ≤ 1048576) (s2 : (flatS y2.p).length ≤ 1048576) (s3 : (flatS y3.p).length ≤ 1048576) :
    Calls Try.prog 8 #[.agg y1.cs, .agg y2.cs, .agg y3.cs] w fun e w' => e = .returned (.bool true) ∧ Below w.heap.size w w' := by
  obtain ⟨i1, hi1, hz10, hz11, hz12⟩ := info_parts T.info80S
  obtain ⟨W0, hW0⟩ : ∃ W0, W0 = ((w.alloc (.cells #[.int .i64 y1.T, .slice y1.d.kA y1.d.kn y1.d.kc, .slice y1.d.gA y1.d.gn y1.d.gc, .slice y1.d.iA y1.d.im y1.d.ic, .slice y1.cA y1.cn y1.cc, .slice y1.mA y1.mn y1.mc, .slice y1.eA y1.en y1.ec] 80)).alloc (.cells #[.int .i64 y2.T, .slice y2.d.kA y2.d.kn y2.d.kc, .slice y2.d.gA y2.d.gn y2.d.gc, .slice y2.d.iA y2.d.im y2.d.ic, .slice y2.cA y2.cn y2.cc, .slice y2.mA y2.mn y2.mc, .slice y2.eA y2.en y2.ec] 80)).alloc (.cells #[.int .i64 y3.T, .slice y3.d.kA y3.d.kn y3.d.kc, .slice y3.d.gA y3.d.gn y3.d.gc, .slice y3.d.iA y3.d.im y3.d.ic, .slice y3.cA y3.cn y3.cc, .slice y3.mA y3.mn y3.mc, .slice y3.eA y3.en y3.ec] 80) := ⟨_, rfl⟩
  have hb0 : Below w.heap.size w W0 := by rw [hW0]; exact Below.al (Below.al (Below.al (Below.refl _ _) _) _) _
  have HD0 : Hid (DsB w W0 y1 y2 y3) := Lib.hid (by
    rw [hW0]
    refine ⟨((Bk.new _ _ _).alloc _).alloc _, (Bk.two _ _ _ _).alloc _, ?_, hW0 ▸ hb0⟩
    have h9 := Bk.new ((w.alloc (.cells #[.int .i64 y1.T, .slice y1.d.kA y1.d.kn y1.d.kc, .slice y1.d.gA y1.d.gn y1.d.gc, .slice y1.d.iA y1.d.im y1.d.ic, .slice y1.cA y1.cn y1.cc, .slice y1.mA y1.mn y1.mc, .slice y1.eA y1.en y1.ec] 80)).alloc (.cells #[.int .i64 y2.T, .slice y2.d.kA y2.d.kn y2.d.kc, .slice y2.d.gA y2.d.gn y2.d.gc, .slice y2.d.iA y2.d.im y2.d.ic, .slice y2.cA y2.cn y2.cc, .slice y2.mA y2.mn y2.mc, .slice y2.eA y2.en y2.ec] 80)) 80 y3.cs
    have h8 : ((w.alloc (.cells #[.int .i64 y1.T, .slice y1.d.kA y1.d.kn y1.d.kc, .slice y1.d.gA y1.d.gn y1.d.gc, .slice y1.d.iA y1.d.im y1.d.ic, .slice y1.cA y1.cn y1.cc, .slice y1.mA y1.mn y1.mc, .slice y1.eA y1.en y1.ec] 80)).alloc (.cells #[.int .i64 y2.T, .slice y2.d.kA y2.d.kn y2.d.kc, .slice y2.d.gA y2.d.gn y2.d.gc, .slice y2.d.iA y2.d.im y2.d.ic, .slice y2.cA y2.cn y2.cc, .slice y2.mA y2.mn y2.mc, .slice y2.eA y2.en y2.ec] 80)).heap.size = w.heap.size + 1 + 1 := by simp
    rw [h8] at h9
    exact h9)
  obtain ⟨F1, hF1⟩ : ∃ z, z = flatS y1.p := ⟨_, rfl⟩
  obtain ⟨F2, hF2⟩ : ∃ z, z = flatS y2.p := ⟨_, rfl⟩
  obtain ⟨F3, hF3⟩ : ∃ z, z = flatS y3.p := ⟨_, rfl⟩
  have HL1 : Hid (∀ wz, Below w.heap.size w wz → Calls Try.prog 119 #[.agg #[.int .i64 y1.T, .slice y1.d.kA y1.d.kn y1.d.kc, .slice y1.d.gA y1.d.gn y1.d.gc, .slice y1.d.iA y1.d.im y1.d.ic, .slice y1.cA y1.cn y1.cc, .slice y1.mA y1.mn y1.mc, .slice y1.eA y1.en y1.ec]] wz (RetS wz 3 1 F1.length (F1.map (Value.int .i64)))) := Lib.hid (fun wz hb => by rw [hF1]; exact flatG_any y1 w.heap.size wz (h1.below hb) hb.size (by omega))
  have HN1 : Hid (∀ wz, Below w.heap.size w wz → Calls Try.prog 43 #[.agg #[.int .i64 y1.T, .slice y1.d.kA y1.d.kn y1.d.kc, .slice y1.d.gA y1.d.gn y1.d.gc, .slice y1.d.iA y1.d.im y1.d.ic, .slice y1.cA y1.cn y1.cc, .slice y1.mA y1.mn y1.mc, .slice y1.eA y1.en y1.ec]] wz (RetS wz 3 1 F1.length (F1.map (Value.int .i64)))) := Lib.hid (fun wz hb => by rw [hF1]; exact numsG_any y1 w.heap.size wz (h1.below hb) hb.size (by omega))
  have HL2 : Hid (∀ wz, Below w.heap.size w wz → Calls Try.prog 119 #[.agg #[.int .i64 y2.T, .slice y2.d.kA y2.d.kn y2.d.kc, .slice y2.d.gA y2.d.gn y2.d.gc, .slice y2.d.iA y2.d.im y2.d.ic, .slice y2.cA y2.cn y2.cc, .slice y2.mA y2.mn y2.mc, .slice y2.eA y2.en y2.ec]] wz (RetS wz 3 1 F2.length (F2.map (Value.int .i64)))) := Lib.hid (fun wz hb => by rw [hF2]; exact flatG_any y2 w.heap.size wz (h2.below hb) hb.size (by omega))
  have HN2 : Hid (∀ wz, Below w.heap.size w wz → Calls Try.prog 43 #[.agg #[.int .i64 y2.T, .slice y2.d.kA y2.d.kn y2.d.kc, .slice y2.d.gA y2.d.gn y2.d.gc, .slice y2.d.iA y2.d.im y2.d.ic, .slice y2.cA y2.cn y2.cc, .slice y2.mA y2.mn y2.mc, .slice y2.eA y2.en y2.ec]] wz (RetS wz 3 1 F2.length (F2.map (Value.int .i64)))) := Lib.hid (fun wz hb => by rw [hF2]; exact numsG_any y2 w.heap.size wz (h2.below hb) hb.size (by omega))
  have HL3 : Hid (∀ wz, Below w.heap.size w wz → Calls Try.prog 119 #[.agg #[.int .i64 y3.T, .slice y3.d.kA y3.d.kn y3.d.kc, .slice y3.d.gA y3.d.gn y3.d.gc, .slice y3.d.iA y3.d.im y3.d.ic, .slice y3.cA y3.cn y3.cc, .slice y3.mA y3.mn y3.mc, .slice y3.eA y3.en y3.ec]] wz (RetS wz 3 1 F3.length (F3.map (Value.int .i64)))) := Lib.hid (fun wz hb => by rw [hF3]; exact flatG_any y3 w.heap.size wz (h3.below hb) hb.size (by omega))
  have HN3 : Hid (∀ wz, Below w.heap.size w wz → Calls Try.prog 43 #[.agg #[.int .i64 y3.T, .slice y3.d.kA y3.d.kn y3.d.kc, .slice y3.d.gA y3.d.gn y3.d.gc, .slice y3.d.iA y3.d.im y3.d.ic, .slice y3.cA y3.cn y3.cc, .slice y3.mA y3.mn y3.mc, .slice y3.eA y3.en y3.ec]] wz (RetS wz 3 1 F3.length (F3.map (Value.int .i64)))) := Lib.hid (fun wz hb => by rw [hF3]; exact numsG_any y3 w.heap.size wz (h3.below hb) hb.size (by omega))
  have HH : Hid (SmO w w.heap.size y1 ∧ SmO w w.heap.size y2 ∧ SmO w w.heap.size y3) := Lib.hid ⟨h1, h2, h3⟩
  have HR : Hid ((i64r F1 ∧ i64r F2 ∧ i64r F3) ∧ F1.length ≤ 1048576 ∧ F2.length ≤ 1048576 ∧ F3.length ≤ 1048576) := Lib.hid (by rw [hF1, hF2, hF3]; exact ⟨⟨r1, r2, r3⟩, s1, s2, s3⟩)
  have HF : Hid (F1 = flatS y1.p ∧ F2 = flatS y2.p ∧ F3 = flatS y3.p) := Lib.hid ⟨hF1, hF2, hF3⟩
  have HM : Hid (Calls Try.prog 41 #[.agg #[.int .i64 y1.T, .slice y1.d.kA y1.d.kn y1.d.kc, .slice y1.d.gA y1.d.gn y1.d.gc, .slice y1.d.iA y1.d.im y1.d.ic, .slice y1.cA y1.cn y1.cc, .slice y1.mA y1.mn y1.mc, .slice y1.eA y1.en y1.ec], .agg #[.int .i64 y2.T, .slice y2.d.kA y2.d.kn y2.d.kc, .slice y2.d.gA y2.d.gn y2.d.gc, .slice y2.d.iA y2.d.im y2.d.ic, .slice y2.cA y2.cn y2.cc, .slice y2.mA y2.mn y2.mc, .slice y2.eA y2.en y2.ec]] W0 (IntsPost W0 F1 F2)) := Lib.hid (by
    have e1 : ∀ wz, Below W0.heap.size W0 wz → Below w.heap.size w wz := fun wz hb => hb0.trans (hb.mono hb0.size)
    by_cases hok : encOk F1 F2
    · exact make_ok y1.T y1.d.kA y1.d.kn y1.d.kc y1.d.gA y1.d.gn y1.d.gc y1.d.iA y1.d.im y1.d.ic y1.cA y1.cn y1.cc y1.mA y1.mn y1.mc y1.eA y1.en y1.ec y2.T y2.d.kA y2.d.kn y2.d.kc y2.d.gA y2.d.gn y2.d.gc y2.d.iA y2.d.im y2.d.ic y2.cA y2.cn y2.cc y2.mA y2.mn y2.mc y2.eA y2.en y2.ec F1 F2 W0 (fun wz hb => HL1.out wz (e1 wz hb)) (fun wz hb => HL2.out wz (e1 wz hb)) HR.out.1.1 HR.out.1.2.1 hok
    · exact make_no y1.T y1.d.kA y1.d.kn y1.d.kc y1.d.gA y1.d.gn y1.d.gc y1.d.iA y1.d.im y1.d.ic y1.cA y1.cn y1.cc y1.mA y1.mn y1.mc y1.eA y1.en y1.ec y2.T y2.d.kA y2.d.kn y2.d.kc y2.d.gA y2.d.gn y2.d.gc y2.d.iA y2.d.im y2.d.ic y2.cA y2.cn y2.cc y2.mA y2.mn y2.mc y2.eA y2.en y2.ec F1 F2 W0 (fun wz hb => HL1.out wz (e1 wz hb)) (fun wz hb => HL2.out wz (e1 wz hb)) HR.out.1.1 HR.out.1.2.1 hok)
  obtain ⟨dd, hdd⟩ : ∃ z, z = packB (encB F1 F2) := ⟨_, rfl⟩
  have HDD := Lib.hid hdd
  clear hF1 hF2 hF3 h1 h2 h3 r1 r2 r3 s1 s2 s3 hb0 HL1 HL2 HL3 hdd
  show Calls Try.prog 8 #[.agg #[.int .i64 y1.T, .slice y1.d.kA y1.d.kn y1.d.kc, .slice y1.d.gA y1.d.gn y1.d.gc, .slice y1.d.iA y1.d.im y1.d.ic, .slice y1.cA y1.cn y1.cc, .slice y1.mA y1.mn y1.mc, .slice y1.eA y1.en y1.ec], .agg #[.int .i64 y2.T, .slice y2.d.kA y2.d.kn y2.d.kc, .slice y2.d.gA y2.d.gn y2.d.gc, .slice y2.d.iA y2.d.im y2.d.ic, .slice y2.cA y2.cn y2.cc, .slice y2.mA y2.mn y2.mc, .slice y2.eA y2.en y2.ec], .agg #[.int .i64 y3.T, .slice y3.d.kA y3.d.kn y3.d.kc, .slice y3.d.gA y3.d.gn y3.d.gc, .slice y3.d.iA y3.d.im y3.d.ic, .slice y3.cA y3.cn y3.cc, .slice y3.mA y3.mn y3.mc, .slice y3.eA y3.en y3.ec]] w _
  go_enter Try.func8, Try.ntmps8
  go_upto_region 1 with fail
  rw [← hW0]
  clear hW0
  have a0 : W0.cell? ⟨w.heap.size, 0, none⟩ = some (.int .i64 y1.T) := HD0.out.b1.cell 0
  have a1 : W0.cell? ⟨w.heap.size, 1, none⟩ = some (.slice y1.d.kA y1.d.kn y1.d.kc) := HD0.out.b1.cell 1
  have a2 : W0.cell? ⟨w.heap.size, 2, none⟩ = some (.slice y1.d.gA y1.d.gn y1.d.gc) := HD0.out.b1.cell 2
  have a3 : W0.cell? ⟨w.heap.size, 3, none⟩ = some (.slice y1.d.iA y1.d.im y1.d.ic) := HD0.out.b1.cell 3
  have a4 : W0.cell? ⟨w.heap.size, 4, none⟩ = some (.slice y1.cA y1.cn y1.cc) := HD0.out.b1.cell 4
  have a5 : W0.cell? ⟨w.heap.size, 5, none⟩ = some (.slice y1.mA y1.mn y1.mc) := HD0.out.b1.cell 5
  have a6 : W0.cell? ⟨w.heap.size, 6, none⟩ = some (.slice y1.eA y1.en y1.ec) := HD0.out.b1.cell 6
  have b0 : W0.cell? ⟨w.heap.size + 1, 0, none⟩ = some (.int .i64 y2.T) := HD0.out.b2.cell 0
  have b1 : W0.cell? ⟨w.heap.size + 1, 1, none⟩ = some (.slice y2.d.kA y2.d.kn y2.d.kc) := HD0.out.b2.cell 1
  have b2 : W0.cell? ⟨w.heap.size + 1, 2, none⟩ = some (.slice y2.d.gA y2.d.gn y2.d.gc) := HD0.out.b2.cell 2
  have b3 : W0.cell? ⟨w.heap.size + 1, 3, none⟩ = some (.slice y2.d.iA y2.d.im y2.d.ic) := HD0.out.b2.cell 3
  have b4 : W0.cell? ⟨w.heap.size + 1, 4, none⟩ = some (.slice y2.cA y2.cn y2.cc) := HD0.out.b2.cell 4
  have b5 : W0.cell? ⟨w.heap.size + 1, 5, none⟩ = some (.slice y2.mA y2.mn y2.mc) := HD0.out.b2.cell 5
  have b6 : W0.cell? ⟨w.heap.size + 1, 6, none⟩ = some (.slice y2.eA y2.en y2.ec) := HD0.out.b2.cell 6
  by_cases hok : encOk F1 F2
  · have HOK := Lib.hid hok
    have HDEC : Hid (decide (encOk F1 F2) = true) := Lib.hid (decide_eq_true hok)
    clear hok
    go_wp2_with fail
    refine HM.out.mono ?_
    rintro e w1 (⟨_, A1, c1, rfl, ho1, hb1⟩ | ⟨hno, _⟩)
    rotate_left
    · exact absurd HOK.out hno
    rw [← HDD.out] at ho1 ⊢
    have HO1 := Lib.hid ho1
    clear ho1
    have D1 : Hid (DsB w w1 y1 y2 y3) := Lib.hid (HD0.out.below hb1)
    have HB1 := Lib.hid hb1
    clear a0 a1 a2 a3 a4 a5 a6 b0 b1 b2 b3 b4 b5 b6 HM HD0
    go_upto_region 2 with fail
    have HS : Hid (∀ wx, Below w1.heap.size w1 wx → wx.cell? ⟨w.heap.size, 0, none⟩ = some (.int .i64 y1.T) ∧ wx.cell? ⟨w.heap.size, 1, none⟩ = some (.slice y1.d.kA y1.d.kn y1.d.kc) ∧ wx.cell? ⟨w.heap.size, 2, none⟩ = some (.slice y1.d.gA y1.d.gn y1.d.gc) ∧ wx.cell? ⟨w.heap.size, 3, none⟩ = some (.slice y1.d.iA y1.d.im y1.d.ic) ∧ wx.cell? ⟨w.heap.size, 4, none⟩ = some (.slice y1.cA y1.cn y1.cc) ∧ wx.cell? ⟨w.heap.size, 5, none⟩ = some (.slice y1.mA y1.mn y1.mc) ∧ wx.cell? ⟨w.heap.size, 6, none⟩ = some (.slice y1.eA y1.en y1.ec) ∧ wx.cell? ⟨w.heap.size + 1, 0, none⟩ = some (.int .i64 y2.T) ∧ wx.cell? ⟨w.heap.size + 1, 1, none⟩ = some (.slice y2.d.kA y2.d.kn y2.d.kc) ∧ wx.cell? ⟨w.heap.size + 1, 2, none⟩ = some (.slice y2.d.gA y2.d.gn y2.d.gc) ∧ wx.cell? ⟨w.heap.size + 1, 3, none⟩ = some (.slice y2.d.iA y2.d.im y2.d.ic) ∧ wx.cell? ⟨w.heap.size + 1, 4, none⟩ = some (.slice y2.cA y2.cn y2.cc) ∧ wx.cell? ⟨w.heap.size + 1, 5, none⟩ = some (.slice y2.mA y2.mn y2.mc) ∧ wx.cell? ⟨w.heap.size + 1, 6, none⟩ = some (.slice y2.eA y2.en y2.ec)) := Lib.hid fun wx hb => by
      have d := D1.out.below hb
      exact ⟨d.b1.cell 0, d.b1.cell 1, d.b1.cell 2, d.b1.cell 3, d.b1.cell 4, d.b1.cell 5, d.b1.cell 6, d.b2.cell 0, d.b2.cell 1, d.b2.cell 2, d.b2.cell 3, d.b2.cell 4, d.b2.cell 5, d.b2.cell 6⟩
    have HN1a : Hid (∀ wz, Below w1.heap.size w1 wz → Calls Try.prog 43 #[.agg #[.int .i64 y1.T, .slice y1.d.kA y1.d.kn y1.d.kc, .slice y1.d.gA y1.d.gn y1.d.gc, .slice y1.d.iA y1.d.im y1.d.ic, .slice y1.cA y1.cn y1.cc, .slice y1.mA y1.mn y1.mc, .slice y1.eA y1.en y1.ec]] wz (RetS wz 3 1 F1.length (F1.map (Value.int .i64)))) := Lib.hid fun wz hb => HN1.out wz (D1.out.below hb).bel
    have HN2a : Hid (∀ wz, Below w1.heap.size w1 wz → Calls Try.prog 43 #[.agg #[.int .i64 y2.T, .slice y2.d.kA y2.d.kn y2.d.kc, .slice y2.d.gA y2.d.gn y2.d.gc, .slice y2.d.iA y2.d.im y2.d.ic, .slice y2.cA y2.cn y2.cc, .slice y2.mA y2.mn y2.mc, .slice y2.eA y2.en y2.ec]] wz (RetS wz 3 1 F2.length (F2.map (Value.int .i64)))) := Lib.hid fun wz hb => HN2.out wz (D1.out.below hb).bel
    go_region_held3 (fun wx => wx.cell? ⟨w.heap.size, 0, none⟩ = some (.int .i64 y1.T) ∧ wx.cell? ⟨w.heap.size, 1, none⟩ = some (.slice y1.d.kA y1.d.kn y1.d.kc) ∧ wx.cell? ⟨w.heap.size, 2, none⟩ = some (.slice y1.d.gA y1.d.gn y1.d.gc) ∧ wx.cell? ⟨w.heap.size, 3, none⟩ = some (.slice y1.d.iA y1.d.im y1.d.ic) ∧ wx.cell? ⟨w.heap.size, 4, none⟩ = some (.slice y1.cA y1.cn y1.cc) ∧ wx.cell? ⟨w.heap.size, 5, none⟩ = some (.slice y1.mA y1.mn y1.mc) ∧ wx.cell? ⟨w.heap.size, 6, none⟩ = some (.slice y1.eA y1.en y1.ec) ∧ wx.cell? ⟨w.heap.size + 1, 0, none⟩ = some (.int .i64 y2.T) ∧ wx.cell? ⟨w.heap.size + 1, 1, none⟩ = some (.slice y2.d.kA y2.d.kn y2.d.kc) ∧ wx.cell? ⟨w.heap.size + 1, 2, none⟩ = some (.slice y2.d.gA y2.d.gn y2.d.gc) ∧ wx.cell? ⟨w.heap.size + 1, 3, none⟩ = some (.slice y2.d.iA y2.d.im y2.d.ic) ∧ wx.cell? ⟨w.heap.size + 1, 4, none⟩ = some (.slice y2.cA y2.cn y2.cc) ∧ wx.cell? ⟨w.heap.size + 1, 5, none⟩ = some (.slice y2.mA y2.mn y2.mc) ∧ wx.cell? ⟨w.heap.size + 1, 6, none⟩ = some (.slice y2.eA y2.en y2.ec))
      (((with_reducible refine HS.out _ ?_); (repeat' first | with_reducible exact Below.refl _ _ | with_reducible assumption | with_reducible refine Below.drew ?_)))
      (first
        | (go_at_call 43
           (with_reducible refine (HN1a.out _ ?hb).mono ?_)
           case hb => (repeat' first | with_reducible exact Below.refl _ _ | with_reducible refine Below.drew ?_)
           rintro e w2 ⟨A2, c2, rfl, ho2, hb2⟩
           have hB2 : Below w1.heap.size w1 w2 := ((Below.refl w1.heap.size w1).drew).trans hb2)
        | (go_at_call 43
           (with_reducible refine (HN2a.out _ ?hb).mono ?_)
           case hb => exact hB2
           rintro e w3 ⟨A3, c3, rfl, ho3, hb3⟩
           have hB3 : Below w1.heap.size w1 w3 := hB2.trans (hb3.mono hB2.size))
        | (go_at_call 42
           (with_reducible refine (refDiff_any A2 A3 _ c2 _ c3 w3.heap.size F1 F2 w3 ?r1 ?r2 rfl rfl ?nc HR.out.1.1 HR.out.1.2.1 (Nat.le_refl _)).mono ?_)
           case r1 => exact (Rd.of_own (own_keepU ho2 hb3))
           case r2 => exact (Rd.of_own ho3)
           case nc => exact ⟨HR.out.2.1, HR.out.2.2.1⟩
           unfold DiffPost
           rintro e w4 ⟨A4, c4, rfl, ho4, hb4⟩
           have hB4 : Below w1.heap.size w1 w4 := hB3.trans (hb4.mono hB3.size)))
    (try rw [HDEC.out])
    have D4 : Hid (DsB w w4 y1 y2 y3) := Lib.hid (D1.out.below hB4)
    rw [← HDD.out] at ho4 ⊢
    have HO4 := Lib.hid ho4
    have HB4 := Lib.hid hB4
    have HZ34 : Hid (w1.heap.size ≤ w3.heap.size) := Lib.hid hB3.size
    clear ho2 ho3 ho4 hb2 hb3 hb4 hB2 hB3 hB4 HS HN1a HN2a
    go_wp2_with fail
    refine (differsL_any _).mono ?_
    rintro e w5 ⟨rfl, hb5⟩
    have D5 : Hid (DsB w w5 y1 y2 y3) := Lib.hid (D4.out.below hb5)
    have HB5 := Lib.hid hb5
    have HB45 := Lib.hid hb5
    have HB15 : Hid (Below w1.heap.size w1 w5) := Lib.hid (HB4.out.trans (hb5.mono HB4.out.size))
    have HAP : Hid (∀ (k : Nat) (y : Sm) (F : List Int) (wz : World), SmO w w.heap.size y → i64r F → F.length ≤ 1048576 → F = flatS y.p → Below w.heap.size w wz → Below w1.heap.size w1 wz → Calls Try.prog 45 #[.agg y.cs, .slice A1 dd.length c1] wz (ApL wz F F1 y2.p)) := Lib.hid (by
      intro _ y F wz hy hr hl hf hb hb'
      have hz := HB1.out.size
      rw [hf] at hr hl ⊢
      have hd := own_rd HO1.out hb'
      have hd2 := hd.more (B' := wz.heap.size) hb'.size
      rw [HDD.out] at hd2 ⊢
      exact applyL_any y F1 F2 y2.p A1 _ c1 w.heap.size wz (hy.below hb) hb.size hl hr HF.out.2.1.symm (Sm.wf HH.out.2.1) HR.out.1.2.1 HOK.out hd2 rfl)
    have HA1 : Hid (Calls Try.prog 45 #[.agg #[.int .i64 y1.T, .slice y1.d.kA y1.d.kn y1.d.kc, .slice y1.d.gA y1.d.gn y1.d.gc, .slice y1.d.iA y1.d.im y1.d.ic, .slice y1.cA y1.cn y1.cc, .slice y1.mA y1.mn y1.mc, .slice y1.eA y1.en y1.ec], .slice A1 dd.length c1] w5 (ApL w5 F1 F1 y2.p)) := Lib.hid (HAP.out 0 y1 F1 w5 HH.out.1 HR.out.1.1 HR.out.2.1 HF.out.1 D5.out.bel HB15.out)
    clear hb5
    have a0 : w5.cell? ⟨w.heap.size, 0, none⟩ = some (.int .i64 y1.T) := D5.out.b1.cell 0
    have a1 : w5.cell? ⟨w.heap.size, 1, none⟩ = some (.slice y1.d.kA y1.d.kn y1.d.kc) := D5.out.b1.cell 1
    have a2 : w5.cell? ⟨w.heap.size, 2, none⟩ = some (.slice y1.d.gA y1.d.gn y1.d.gc) := D5.out.b1.cell 2
    have a3 : w5.cell? ⟨w.heap.size, 3, none⟩ = some (.slice y1.d.iA y1.d.im y1.d.ic) := D5.out.b1.cell 3
    have a4 : w5.cell? ⟨w.heap.size, 4, none⟩ = some (.slice y1.cA y1.cn y1.cc) := D5.out.b1.cell 4
    have a5 : w5.cell? ⟨w.heap.size, 5, none⟩ = some (.slice y1.mA y1.mn y1.mc) := D5.out.b1.cell 5
    have a6 : w5.cell? ⟨w.heap.size, 6, none⟩ = some (.slice y1.eA y1.en y1.ec) := D5.out.b1.cell 6
    go_wp2_with fail
    refine HA1.out.mono ?_
    rintro e w6 ⟨z, E, rfl, hz, _, hE, _, hb6⟩
    obtain ⟨rfl, hzp⟩ := hE rfl
    have HB56 := Lib.hid hb6
    have D6 : Hid (DsB w w6 y1 y2 y3) := Lib.hid (D5.out.below hb6)
    have HZ := Lib.hid (And.intro hz hzp)
    have HB16 : Hid (Below w1.heap.size w1 w6) := Lib.hid (HB15.out.trans (hb6.mono HB15.out.size))
    have HNB := Lib.hid (Bk.new w6 80 #[.int .i64 0, .slice none 0 0, .slice none 0 0, .slice none 0 0, .slice none 0 0, .slice none 0 0, .slice none 0 0])
    clear a0 a1 a2 a3 a4 a5 a6 HA1 hz hzp hb6 hE
    have m0 : (w6.alloc (.cells #[.int .i64 0, .slice none 0 0, .slice none 0 0, .slice none 0 0, .slice none 0 0, .slice none 0 0, .slice none 0 0] 80)).cell? ⟨w6.heap.size, 0, none⟩ = some (.int .i64 0) := HNB.out.cell 0
    have f0 := HNB.out.frozen 0
    have m1 : (w6.alloc (.cells #[.int .i64 0, .slice none 0 0, .slice none 0 0, .slice none 0 0, .slice none 0 0, .slice none 0 0, .slice none 0 0] 80)).cell? ⟨w6.heap.size, 1, none⟩ = some (.slice none 0 0) := HNB.out.cell 1
    have f1 := HNB.out.frozen 1
    have m2 : (w6.alloc (.cells #[.int .i64 0, .slice none 0 0, .slice none 0 0, .slice none 0 0, .slice none 0 0, .slice none 0 0, .slice none 0 0] 80)).cell? ⟨w6.heap.size, 2, none⟩ = some (.slice none 0 0) := HNB.out.cell 2
    have f2 := HNB.out.frozen 2
    have m3 : (w6.alloc (.cells #[.int .i64 0, .slice none 0 0, .slice none 0 0, .slice none 0 0, .slice none 0 0, .slice none 0 0, .slice none 0 0] 80)).cell? ⟨w6.heap.size, 3, none⟩ = some (.slice none 0 0) := HNB.out.cell 3
    have f3 := HNB.out.frozen 3
    have m4 : (w6.alloc (.cells #[.int .i64 0, .slice none 0 0, .slice none 0 0, .slice none 0 0, .slice none 0 0, .slice none 0 0, .slice none 0 0] 80)).cell? ⟨w6.heap.size, 4, none⟩ = some (.slice none 0 0) := HNB.out.cell 4
    have f4 := HNB.out.frozen 4
    have m5 : (w6.alloc (.cells #[.int .i64 0, .slice none 0 0, .slice none 0 0, .slice none 0 0, .slice none 0 0, .slice none 0 0, .slice none 0 0] 80)).cell? ⟨w6.heap.size, 5, none⟩ = some (.slice none 0 0) := HNB.out.cell 5
    have f5 := HNB.out.frozen 5
    have m6 : (w6.alloc (.cells #[.int .i64 0, .slice none 0 0, .slice none 0 0, .slice none 0 0, .slice none 0 0, .slice none 0 0, .slice none 0 0] 80)).cell? ⟨w6.heap.size, 6, none⟩ = some (.slice none 0 0) := HNB.out.cell 6
    have f6 := HNB.out.frozen 6
    unfold Sm.cs
    dsimp only
    go_upto_region 6 with fail
    obtain ⟨g, hg⟩ : ∃ g, g = w6.heap.size := ⟨_, rfl⟩
    obtain ⟨w7, hw7⟩ : ∃ w7, w7 = w6.alloc (.cells #[.int .i64 z.T, .slice z.d.kA z.d.kn z.d.kc, .slice z.d.gA z.d.gn z.d.gc, .slice z.d.iA z.d.im z.d.ic, .slice z.cA z.cn z.cc, .slice z.mA z.mn z.mc, .slice z.eA z.en z.ec] 80) := ⟨_, rfl⟩
    rw [← hw7, ← hg]
    have hgl : w.heap.size + 1 + 1 < g := by have := D6.out.b3.lt; omega
    have HG7 : Hid (Bk w7 g 80 z.cs) := Lib.hid (by rw [hw7, hg]; exact Bk.new _ _ _)
    have HB67 : Hid (Below w6.heap.size w6 w7) := Lib.hid (by rw [hw7]; exact Below.al (Below.refl _ _) _)
    have D7 : Hid (DsB w w7 y1 y2 y3) := Lib.hid (D6.out.below HB67.out)
    have HKX : Hid (Kx 0 [80] w6 w7) := Lib.hid (by rw [hw7]; exact Kx.alloc Kx.refl _)
    have HB17 : Hid (Below w1.heap.size w1 w7) := Lib.hid (HB16.out.trans (HB67.out.mono HB16.out.size))
    have HB47 : Hid (Below w4.heap.size w4 w7) := Lib.hid ((HB45.out.trans (HB56.out.mono HB45.out.size)).trans (HB67.out.mono (Nat.le_trans HB45.out.size HB56.out.size)))
    have HZ7 : Hid (SmY w7 0 z ∧ z.p = y2.p) := Lib.hid ⟨HZ.out.1.keep80 HKX.out, HZ.out.2⟩
    clear hw7 hg HNB D6 HZ HKX m0 f0 m1 f1 m2 f2 m3 f3 m4 f4 m5 f5 m6 f6
    have HEQ : Hid (Calls Try.prog 46 #[.slice A1 dd.length c1, .slice A4 dd.length c4] w7 fun e w' => e = .returned (.bool true) ∧ w7 = w') := Lib.hid (by
      have hq1 := own_rd HO1.out HB17.out
      have hz4 := HB5.out.size
      have hq4 := own_rd HO4.out HB47.out
      have hlt : ∀ b ∈ dd, b < 256 := by rw [HDD.out]; exact (packB_lt _).1
      have q := bytesEqual_any A1 A4 _ c1 _ c4 w7.heap.size dd dd w7 hlt hlt (hq1.more HB17.out.size) (hq4.more HB47.out.size)
      simp only [decide_true] at q
      exact q)
    have HSM : Hid (Calls Try.prog 47 #[.agg #[.int .i64 z.T, .slice z.d.kA z.d.kn z.d.kc, .slice z.d.gA z.d.gn z.d.gc, .slice z.d.iA z.d.im z.d.ic, .slice z.cA z.cn z.cc, .slice z.mA z.mn z.mc, .slice z.eA z.en z.ec], .agg #[.int .i64 y2.T, .slice y2.d.kA y2.d.kn y2.d.kc, .slice y2.d.gA y2.d.gn y2.d.gc, .slice y2.d.iA y2.d.im y2.d.ic, .slice y2.cA y2.cn y2.cc, .slice y2.mA y2.mn y2.mc, .slice y2.eA y2.en y2.ec]] w7 fun e w' => e = .returned (.bool true) ∧ Below w7.heap.size w7 w') := Lib.hid (by
      have e2 : flatS z.p = F2 := by rw [HZ7.out.2]; exact HF.out.2.1.symm
      have q := sameL_any z y2 w7 HZ7.out.1.ok_ (HH.out.2.1.at_ D7.out.bel) (by rw [e2]; exact HR.out.2.2.1) (by rw [← HF.out.2.1]; exact HR.out.2.2.1) (by rw [e2]; exact HR.out.1.2.1) (by rw [← HF.out.2.1]; exact HR.out.1.2.1)
      rw [HZ7.out.2] at q
      simp only [decide_true] at q
      exact q)
    have m0 : w7.cell? ⟨g, 0, none⟩ = some (.int .i64 z.T) := HG7.out.cell 0
    have m1 : w7.cell? ⟨g, 1, none⟩ = some (.slice z.d.kA z.d.kn z.d.kc) := HG7.out.cell 1
    have m2 : w7.cell? ⟨g, 2, none⟩ = some (.slice z.d.gA z.d.gn z.d.gc) := HG7.out.cell 2
    have m3 : w7.cell? ⟨g, 3, none⟩ = some (.slice z.d.iA z.d.im z.d.ic) := HG7.out.cell 3
    have m4 : w7.cell? ⟨g, 4, none⟩ = some (.slice z.cA z.cn z.cc) := HG7.out.cell 4
    have m5 : w7.cell? ⟨g, 5, none⟩ = some (.slice z.mA z.mn z.mc) := HG7.out.cell 5
    have m6 : w7.cell? ⟨g, 6, none⟩ = some (.slice z.eA z.en z.ec) := HG7.out.cell 6
    have b0 : w7.cell? ⟨w.heap.size + 1, 0, none⟩ = some (.int .i64 y2.T) := D7.out.b2.cell 0
    have b1 : w7.cell? ⟨w.heap.size + 1, 1, none⟩ = some (.slice y2.d.kA y2.d.kn y2.d.kc) := D7.out.b2.cell 1
    have b2 : w7.cell? ⟨w.heap.size + 1, 2, none⟩ = some (.slice y2.d.gA y2.d.gn y2.d.gc) := D7.out.b2.cell 2
    have b3 : w7.cell? ⟨w.heap.size + 1, 3, none⟩ = some (.slice y2.d.iA y2.d.im y2.d.ic) := D7.out.b2.cell 3
    have b4 : w7.cell? ⟨w.heap.size + 1, 4, none⟩ = some (.slice y2.cA y2.cn y2.cc) := D7.out.b2.cell 4
    have b5 : w7.cell? ⟨w.heap.size + 1, 5, none⟩ = some (.slice y2.mA y2.mn y2.mc) := D7.out.b2.cell 5
    have b6 : w7.cell? ⟨w.heap.size + 1, 6, none⟩ = some (.slice y2.eA y2.en y2.ec) := D7.out.b2.cell 6
    go_wp2_with fail
    refine HEQ.out.mono ?_
    rintro e wq ⟨rfl, rfl⟩
    clear HEQ
    go_wp2_with fail
    refine HSM.out.mono ?_
    rintro e w9 ⟨rfl, hb9⟩
    have D9 : Hid (DsB w w9 y1 y2 y3) := Lib.hid (D7.out.below hb9)
    have HG9 : Hid (Bk w9 g 80 z.cs) := Lib.hid (HG7.out.below hb9 HG7.out.lt)
    have HB19 : Hid (Below w1.heap.size w1 w9) := Lib.hid (HB17.out.trans (hb9.mono HB17.out.size))
    have HA3 : Hid (Calls Try.prog 45 #[.agg #[.int .i64 y3.T, .slice y3.d.kA y3.d.kn y3.d.kc, .slice y3.d.gA y3.d.gn y3.d.gc, .slice y3.d.iA y3.d.im y3.d.ic, .slice y3.cA y3.cn y3.cc, .slice y3.mA y3.mn y3.mc, .slice y3.eA y3.en y3.ec], .slice A1 dd.length c1] w9 (ApL w9 F3 F1 y2.p)) := Lib.hid (HAP.out 0 y3 F3 w9 HH.out.2.2 HR.out.1.2.2 HR.out.2.2.2 HF.out.2.2 D9.out.bel HB19.out)
    clear hb9 HSM HG7 D7 HZ7 HB17 HB16 HB67 m0 b0 m1 b1 m2 b2 m3 b3 m4 b4 m5 b5 m6 b6
    have c0 : w9.cell? ⟨w.heap.size + 1 + 1, 0, none⟩ = some (.int .i64 y3.T) := D9.out.b3.cell 0
    have c1 : w9.cell? ⟨w.heap.size + 1 + 1, 1, none⟩ = some (.slice y3.d.kA y3.d.kn y3.d.kc) := D9.out.b3.cell 1
    have c2 : w9.cell? ⟨w.heap.size + 1 + 1, 2, none⟩ = some (.slice y3.d.gA y3.d.gn y3.d.gc) := D9.out.b3.cell 2
    have c3 : w9.cell? ⟨w.heap.size + 1 + 1, 3, none⟩ = some (.slice y3.d.iA y3.d.im y3.d.ic) := D9.out.b3.cell 3
    have c4 : w9.cell? ⟨w.heap.size + 1 + 1, 4, none⟩ = some (.slice y3.cA y3.cn y3.cc) := D9.out.b3.cell 4
    have c5 : w9.cell? ⟨w.heap.size + 1 + 1, 5, none⟩ = some (.slice y3.mA y3.mn y3.mc) := D9.out.b3.cell 5
    have c6 : w9.cell? ⟨w.heap.size + 1 + 1, 6, none⟩ = some (.slice y3.eA y3.en y3.ec) := D9.out.b3.cell 6
    go_wp2_with fail
    refine HA3.out.mono ?_
    rintro e w10 ⟨u, E, rfl, hu, hu1, hu2, hu3, hb10⟩
    have D10 : Hid (DsB w w10 y1 y2 y3) := Lib.hid (D9.out.below hb10)
    have HG10 : Hid (Bk w10 g 80 z.cs) := Lib.hid (HG9.out.below hb10 HG9.out.lt)
    have HU := Lib.hid hu
    have HUU := Lib.hid (And.intro hu1 (And.intro hu2 hu3))
    clear hu hu1 hu2 hu3 hb10 HA3 HG9 D9 c0 c1 c2 c3 c4 c5 c6
    have m0 : w10.cell? ⟨g, 0, none⟩ = some (.int .i64 z.T) := HG10.out.cell 0
    have f0 := HG10.out.frozen 0
    have m1 : w10.cell? ⟨g, 1, none⟩ = some (.slice z.d.kA z.d.kn z.d.kc) := HG10.out.cell 1
    have f1 := HG10.out.frozen 1
    have m2 : w10.cell? ⟨g, 2, none⟩ = some (.slice z.d.gA z.d.gn z.d.gc) := HG10.out.cell 2
    have f2 := HG10.out.frozen 2
    have m3 : w10.cell? ⟨g, 3, none⟩ = some (.slice z.d.iA z.d.im z.d.ic) := HG10.out.cell 3
    have f3 := HG10.out.frozen 3
    have m4 : w10.cell? ⟨g, 4, none⟩ = some (.slice z.cA z.cn z.cc) := HG10.out.cell 4
    have f4 := HG10.out.frozen 4
    have m5 : w10.cell? ⟨g, 5, none⟩ = some (.slice z.mA z.mn z.mc) := HG10.out.cell 5
    have f5 := HG10.out.frozen 5
    have m6 : w10.cell? ⟨g, 6, none⟩ = some (.slice z.eA z.en z.ec) := HG10.out.cell 6
    have f6 := HG10.out.frozen 6
    unfold Sm.cs
    dsimp only
    go_upto_region 9 with fail
    obtain ⟨w11, hw11⟩ : ∃ w11, w11 = (((((((w10.setCell ⟨g, 0, none⟩ (.int .i64 u.T)).setCell ⟨g, 1, none⟩ (.slice u.d.kA u.d.kn u.d.kc)).setCell ⟨g, 2, none⟩ (.slice u.d.gA u.d.gn u.d.gc)).setCell ⟨g, 3, none⟩ (.slice u.d.iA u.d.im u.d.ic)).setCell ⟨g, 4, none⟩ (.slice u.cA u.cn u.cc)).setCell ⟨g, 5, none⟩ (.slice u.mA u.mn u.mc)).setCell ⟨g, 6, none⟩ (.slice u.eA u.en u.ec)) := ⟨_, rfl⟩
    rw [← hw11]
    have HG11 : Hid (Bk w11 g 80 u.cs) := Lib.hid (by rw [hw11]; exact store7 HG10.out rfl _ _ _ _ _ _ _)
    have D11 : Hid (DsB w w11 y1 y2 y3) := Lib.hid (by
      rw [hw11]
      exact ⟨far7 D10.out.b1 (by omega) _ _ _ _ _ _ _, far7 D10.out.b2 (by omega) _ _ _ _ _ _ _, far7 D10.out.b3 (by omega) _ _ _ _ _ _ _, below7 D10.out.bel (by omega) _ _ _ _ _ _ _⟩)
    have HU11 : Hid (SmY w11 0 u) := Lib.hid (by rw [hw11]; exact HU.out.keep80 (kx7 Kx.refl HG10.out _ _ _ _ _ _ _))
    clear hw11 HU HG10 D10 m0 f0 m1 f1 m2 f2 m3 f3 m4 f4 m5 f5 m6 f6
    have c0 : w11.cell? ⟨w.heap.size + 1 + 1, 0, none⟩ = some (.int .i64 y3.T) := D11.out.b3.cell 0
    have c1 : w11.cell? ⟨w.heap.size + 1 + 1, 1, none⟩ = some (.slice y3.d.kA y3.d.kn y3.d.kc) := D11.out.b3.cell 1
    have c2 : w11.cell? ⟨w.heap.size + 1 + 1, 2, none⟩ = some (.slice y3.d.gA y3.d.gn y3.d.gc) := D11.out.b3.cell 2
    have c3 : w11.cell? ⟨w.heap.size + 1 + 1, 3, none⟩ = some (.slice y3.d.iA y3.d.im y3.d.ic) := D11.out.b3.cell 3
    have c4 : w11.cell? ⟨w.heap.size + 1 + 1, 4, none⟩ = some (.slice y3.cA y3.cn y3.cc) := D11.out.b3.cell 4
    have c5 : w11.cell? ⟨w.heap.size + 1 + 1, 5, none⟩ = some (.slice y3.mA y3.mn y3.mc) := D11.out.b3.cell 5
    have c6 : w11.cell? ⟨w.heap.size + 1 + 1, 6, none⟩ = some (.slice y3.eA y3.en y3.ec) := D11.out.b3.cell 6
    have HN3a := Lib.hid (HN3.out w11 D11.out.bel)
    have HSU : Hid (∀ (y : Sm) (wx : World), SmO wx wx.heap.size y → Below w11.heap.size w11 wx → flatS u.p = flatS y.p → (flatS y.p).length ≤ 1048576 → i64r (flatS y.p) → Calls Try.prog 47 #[.agg u.cs, .agg y.cs] wx fun e w' => e = .returned (.bool true) ∧ Below wx.heap.size wx w') := Lib.hid (by
      intro y wx hy hb he hl hr
      have q := sameL_any u y wx (HU11.out.ok_.at_ hb) hy (by rw [he]; exact hl) hl (by rw [he]; exact hr) hr
      rw [he] at q
      simp only [decide_true] at q
      exact q)
    by_cases hbig : 65536 < F3.length
    · obtain ⟨rfl, hup⟩ := HUU.out.1 hbig
      have hbg : ((F3.length : Nat) : Int) > 65536 := by omega
      have HUP := Lib.hid hup
      clear hup hbig
      go_wp2_with fail
      refine HN3a.out.mono ?_
      rintro e w12 ⟨A12, c12, rfl, _, hb12⟩
      have D12 : Hid (DsB w w12 y1 y2 y3) := Lib.hid (D11.out.below hb12)
      have HG12 := Lib.hid (HG11.out.below hb12 HG11.out.lt)
      have HSZ : Hid (Calls Try.prog 47 #[.agg #[.int .i64 u.T, .slice u.d.kA u.d.kn u.d.kc, .slice u.d.gA u.d.gn u.d.gc, .slice u.d.iA u.d.im u.d.ic, .slice u.cA u.cn u.cc, .slice u.mA u.mn u.mc, .slice u.eA u.en u.ec], .agg #[.int .i64 0, .slice none 0 0, .slice none 0 0, .slice none 0 0, .slice none 0 0, .slice none 0 0, .slice none 0 0]] w12 fun e w' => e = .returned (.bool true) ∧ Below w12.heap.size w12 w') := Lib.hid (HSU.out zeroS w12 (zeroS_ok _) hb12 (by rw [HUP.out]) (by rw [zeroS_flat]; decide) zeroS_r)
      clear hb12 c0 c1 c2 c3 c4 c5 c6
      have m0 : w12.cell? ⟨g, 0, none⟩ = some (.int .i64 u.T) := HG12.out.cell 0
      have m1 : w12.cell? ⟨g, 1, none⟩ = some (.slice u.d.kA u.d.kn u.d.kc) := HG12.out.cell 1
      have m2 : w12.cell? ⟨g, 2, none⟩ = some (.slice u.d.gA u.d.gn u.d.gc) := HG12.out.cell 2
      have m3 : w12.cell? ⟨g, 3, none⟩ = some (.slice u.d.iA u.d.im u.d.ic) := HG12.out.cell 3
      have m4 : w12.cell? ⟨g, 4, none⟩ = some (.slice u.cA u.cn u.cc) := HG12.out.cell 4
      have m5 : w12.cell? ⟨g, 5, none⟩ = some (.slice u.mA u.mn u.mc) := HG12.out.cell 5
      have m6 : w12.cell? ⟨g, 6, none⟩ = some (.slice u.eA u.en u.ec) := HG12.out.cell 6
      go_wp2_with fail
      refine HSZ.out.mono ?_
      rintro e w13 ⟨rfl, hb13⟩
      go_wp2_with fail
      go_ret
      exact ⟨rfl, (D12.out.below hb13).bel⟩
    · have hbg : ¬ ((F3.length : Nat) : Int) > 65536 := by omega
      have HBIG : Hid (F3.length ≤ 65536) := Lib.hid (by omega)
      clear hbig
      go_wp2_with fail
      refine HN3a.out.mono ?_
      rintro e w12 ⟨A12, c12, rfl, _, hb12⟩
      have D12 : Hid (DsB w w12 y1 y2 y3) := Lib.hid (D11.out.below hb12)
      have HG12 := Lib.hid (HG11.out.below hb12 HG11.out.lt)
      have HB12 := Lib.hid hb12
      have HSA : Hid (Calls Try.prog 47 #[.agg #[.int .i64 y1.T, .slice y1.d.kA y1.d.kn y1.d.kc, .slice y1.d.gA y1.d.gn y1.d.gc, .slice y1.d.iA y1.d.im y1.d.ic, .slice y1.cA y1.cn y1.cc, .slice y1.mA y1.mn y1.mc, .slice y1.eA y1.en y1.ec], .agg #[.int .i64 y3.T, .slice y3.d.kA y3.d.kn y3.d.kc, .slice y3.d.gA y3.d.gn y3.d.gc, .slice y3.d.iA y3.d.im y3.d.ic, .slice y3.cA y3.cn y3.cc, .slice y3.mA y3.mn y3.mc, .slice y3.eA y3.en y3.ec]] w12 fun e w' => e = .returned (.bool (decide (F1 = F3))) ∧ Below w12.heap.size w12 w') := Lib.hid (by
        have hd := D12.out.bel
        have q := sameL_any y1 y3 w12 (HH.out.1.at_ hd) (HH.out.2.2.at_ hd) (by rw [← HF.out.1]; exact HR.out.2.1) (by rw [← HF.out.2.2]; exact HR.out.2.2.2) (by rw [← HF.out.1]; exact HR.out.1.1) (by rw [← HF.out.2.2]; exact HR.out.1.2.2)
        rw [← HF.out.1, ← HF.out.2.2] at q
        exact q)
      clear hb12 c0 c1 c2 c3 c4 c5 c6
      have a0 : w12.cell? ⟨w.heap.size, 0, none⟩ = some (.int .i64 y1.T) := D12.out.b1.cell 0
      have a1 : w12.cell? ⟨w.heap.size, 1, none⟩ = some (.slice y1.d.kA y1.d.kn y1.d.kc) := D12.out.b1.cell 1
      have a2 : w12.cell? ⟨w.heap.size, 2, none⟩ = some (.slice y1.d.gA y1.d.gn y1.d.gc) := D12.out.b1.cell 2
      have a3 : w12.cell? ⟨w.heap.size, 3, none⟩ = some (.slice y1.d.iA y1.d.im y1.d.ic) := D12.out.b1.cell 3
      have a4 : w12.cell? ⟨w.heap.size, 4, none⟩ = some (.slice y1.cA y1.cn y1.cc) := D12.out.b1.cell 4
      have a5 : w12.cell? ⟨w.heap.size, 5, none⟩ = some (.slice y1.mA y1.mn y1.mc) := D12.out.b1.cell 5
      have a6 : w12.cell? ⟨w.heap.size, 6, none⟩ = some (.slice y1.eA y1.en y1.ec) := D12.out.b1.cell 6
      have c0 : w12.cell? ⟨w.heap.size + 1 + 1, 0, none⟩ = some (.int .i64 y3.T) := D12.out.b3.cell 0
      have c1 : w12.cell? ⟨w.heap.size + 1 + 1, 1, none⟩ = some (.slice y3.d.kA y3.d.kn y3.d.kc) := D12.out.b3.cell 1
      have c2 : w12.cell? ⟨w.heap.size + 1 + 1, 2, none⟩ = some (.slice y3.d.gA y3.d.gn y3.d.gc) := D12.out.b3.cell 2
      have c3 : w12.cell? ⟨w.heap.size + 1 + 1, 3, none⟩ = some (.slice y3.d.iA y3.d.im y3.d.ic) := D12.out.b3.cell 3
      have c4 : w12.cell? ⟨w.heap.size + 1 + 1, 4, none⟩ = some (.slice y3.cA y3.cn y3.cc) := D12.out.b3.cell 4
      have c5 : w12.cell? ⟨w.heap.size + 1 + 1, 5, none⟩ = some (.slice y3.mA y3.mn y3.mc) := D12.out.b3.cell 5
      have c6 : w12.cell? ⟨w.heap.size + 1 + 1, 6, none⟩ = some (.slice y3.eA y3.en y3.ec) := D12.out.b3.cell 6
      go_wp2_with fail
      refine HSA.out.mono ?_
      rintro e w13 ⟨rfl, hb13⟩
      have D13 : Hid (DsB w w13 y1 y2 y3) := Lib.hid (D12.out.below hb13)
      have HG13 := Lib.hid (HG12.out.below hb13 HG12.out.lt)
      have HB13 : Hid (Below w11.heap.size w11 w13) := Lib.hid (HB12.out.trans (hb13.mono HB12.out.size))
      clear hb13 HSA D12 HG12 a0 c0 a1 c1 a2 c2 a3 c3 a4 c4 a5 c5 a6 c6
      by_cases hac : F1 = F3
      · rw [decide_eq_true hac]
        obtain ⟨rfl, hup⟩ := HUU.out.2.1 hac.symm
        have HSB : Hid (Calls Try.prog 47 #[.agg #[.int .i64 u.T, .slice u.d.kA u.d.kn u.d.kc, .slice u.d.gA u.d.gn u.d.gc, .slice u.d.iA u.d.im u.d.ic, .slice u.cA u.cn u.cc, .slice u.mA u.mn u.mc, .slice u.eA u.en u.ec], .agg #[.int .i64 y2.T, .slice y2.d.kA y2.d.kn y2.d.kc, .slice y2.d.gA y2.d.gn y2.d.gc, .slice y2.d.iA y2.d.im y2.d.ic, .slice y2.cA y2.cn y2.cc, .slice y2.mA y2.mn y2.mc, .slice y2.eA y2.en y2.ec]] w13 fun e w' => e = .returned (.bool true) ∧ Below w13.heap.size w13 w') := Lib.hid (HSU.out y2 w13 (HH.out.2.1.at_ D13.out.bel) HB13.out (by rw [hup]) (by rw [← HF.out.2.1]; exact HR.out.2.2.1) (by rw [← HF.out.2.1]; exact HR.out.1.2.1))
        clear hac hup
        have m0 : w13.cell? ⟨g, 0, none⟩ = some (.int .i64 u.T) := HG13.out.cell 0
        have m1 : w13.cell? ⟨g, 1, none⟩ = some (.slice u.d.kA u.d.kn u.d.kc) := HG13.out.cell 1
        have m2 : w13.cell? ⟨g, 2, none⟩ = some (.slice u.d.gA u.d.gn u.d.gc) := HG13.out.cell 2
        have m3 : w13.cell? ⟨g, 3, none⟩ = some (.slice u.d.iA u.d.im u.d.ic) := HG13.out.cell 3
        have m4 : w13.cell? ⟨g, 4, none⟩ = some (.slice u.cA u.cn u.cc) := HG13.out.cell 4
        have m5 : w13.cell? ⟨g, 5, none⟩ = some (.slice u.mA u.mn u.mc) := HG13.out.cell 5
        have m6 : w13.cell? ⟨g, 6, none⟩ = some (.slice u.eA u.en u.ec) := HG13.out.cell 6
        have b0 : w13.cell? ⟨w.heap.size + 1, 0, none⟩ = some (.int .i64 y2.T) := D13.out.b2.cell 0
        have b1 : w13.cell? ⟨w.heap.size + 1, 1, none⟩ = some (.slice y2.d.kA y2.d.kn y2.d.kc) := D13.out.b2.cell 1
        have b2 : w13.cell? ⟨w.heap.size + 1, 2, none⟩ = some (.slice y2.d.gA y2.d.gn y2.d.gc) := D13.out.b2.cell 2
        have b3 : w13.cell? ⟨w.heap.size + 1, 3, none⟩ = some (.slice y2.d.iA y2.d.im y2.d.ic) := D13.out.b2.cell 3
        have b4 : w13.cell? ⟨w.heap.size + 1, 4, none⟩ = some (.slice y2.cA y2.cn y2.cc) := D13.out.b2.cell 4
        have b5 : w13.cell? ⟨w.heap.size + 1, 5, none⟩ = some (.slice y2.mA y2.mn y2.mc) := D13.out.b2.cell 5
        have b6 : w13.cell? ⟨w.heap.size + 1, 6, none⟩ = some (.slice y2.eA y2.en y2.ec) := D13.out.b2.cell 6
        go_wp2_with fail
        refine HSB.out.mono ?_
        rintro e w14 ⟨rfl, hb14⟩
        go_wp2_with fail
        go_ret
        exact ⟨rfl, (D13.out.below hb14).bel⟩
      · rw [decide_eq_false hac]
        clear hac
        go_upto_region 13 with fail
        have HS : Hid (∀ wx, Below w13.heap.size w13 wx → wx.cell? ⟨w.heap.size, 0, none⟩ = some (.int .i64 y1.T) ∧ wx.cell? ⟨w.heap.size, 1, none⟩ = some (.slice y1.d.kA y1.d.kn y1.d.kc) ∧ wx.cell? ⟨w.heap.size, 2, none⟩ = some (.slice y1.d.gA y1.d.gn y1.d.gc) ∧ wx.cell? ⟨w.heap.size, 3, none⟩ = some (.slice y1.d.iA y1.d.im y1.d.ic) ∧ wx.cell? ⟨w.heap.size, 4, none⟩ = some (.slice y1.cA y1.cn y1.cc) ∧ wx.cell? ⟨w.heap.size, 5, none⟩ = some (.slice y1.mA y1.mn y1.mc) ∧ wx.cell? ⟨w.heap.size, 6, none⟩ = some (.slice y1.eA y1.en y1.ec) ∧ wx.cell? ⟨w.heap.size + 1 + 1, 0, none⟩ = some (.int .i64 y3.T) ∧ wx.cell? ⟨w.heap.size + 1 + 1, 1, none⟩ = some (.slice y3.d.kA y3.d.kn y3.d.kc) ∧ wx.cell? ⟨w.heap.size + 1 + 1, 2, none⟩ = some (.slice y3.d.gA y3.d.gn y3.d.gc) ∧ wx.cell? ⟨w.heap.size + 1 + 1, 3, none⟩ = some (.slice y3.d.iA y3.d.im y3.d.ic) ∧ wx.cell? ⟨w.heap.size + 1 + 1, 4, none⟩ = some (.slice y3.cA y3.cn y3.cc) ∧ wx.cell? ⟨w.heap.size + 1 + 1, 5, none⟩ = some (.slice y3.mA y3.mn y3.mc) ∧ wx.cell? ⟨w.heap.size + 1 + 1, 6, none⟩ = some (.slice y3.eA y3.en y3.ec)) := Lib.hid fun wx hb => by
          have d := D13.out.below hb
          exact ⟨d.b1.cell 0, d.b1.cell 1, d.b1.cell 2, d.b1.cell 3, d.b1.cell 4, d.b1.cell 5, d.b1.cell 6, d.b3.cell 0, d.b3.cell 1, d.b3.cell 2, d.b3.cell 3, d.b3.cell 4, d.b3.cell 5, d.b3.cell 6⟩
        have HN1a : Hid (∀ wz, Below w13.heap.size w13 wz → Calls Try.prog 43 #[.agg #[.int .i64 y1.T, .slice y1.d.kA y1.d.kn y1.d.kc, .slice y1.d.gA y1.d.gn y1.d.gc, .slice y1.d.iA y1.d.im y1.d.ic, .slice y1.cA y1.cn y1.cc, .slice y1.mA y1.mn y1.mc, .slice y1.eA y1.en y1.ec]] wz (RetS wz 3 1 F1.length (F1.map (Value.int .i64)))) := Lib.hid fun wz hb => HN1.out wz (D13.out.below hb).bel
        have HN2a : Hid (∀ wz, Below w13.heap.size w13 wz → Calls Try.prog 43 #[.agg #[.int .i64 y3.T, .slice y3.d.kA y3.d.kn y3.d.kc, .slice y3.d.gA y3.d.gn y3.d.gc, .slice y3.d.iA y3.d.im y3.d.ic, .slice y3.cA y3.cn y3.cc, .slice y3.mA y3.mn y3.mc, .slice y3.eA y3.en y3.ec]] wz (RetS wz 3 1 F3.length (F3.map (Value.int .i64)))) := Lib.hid fun wz hb => HN3.out wz (D13.out.below hb).bel
        go_region_held3 (fun wx => wx.cell? ⟨w.heap.size, 0, none⟩ = some (.int .i64 y1.T) ∧ wx.cell? ⟨w.heap.size, 1, none⟩ = some (.slice y1.d.kA y1.d.kn y1.d.kc) ∧ wx.cell? ⟨w.heap.size, 2, none⟩ = some (.slice y1.d.gA y1.d.gn y1.d.gc) ∧ wx.cell? ⟨w.heap.size, 3, none⟩ = some (.slice y1.d.iA y1.d.im y1.d.ic) ∧ wx.cell? ⟨w.heap.size, 4, none⟩ = some (.slice y1.cA y1.cn y1.cc) ∧ wx.cell? ⟨w.heap.size, 5, none⟩ = some (.slice y1.mA y1.mn y1.mc) ∧ wx.cell? ⟨w.heap.size, 6, none⟩ = some (.slice y1.eA y1.en y1.ec) ∧ wx.cell? ⟨w.heap.size + 1 + 1, 0, none⟩ = some (.int .i64 y3.T) ∧ wx.cell? ⟨w.heap.size + 1 + 1, 1, none⟩ = some (.slice y3.d.kA y3.d.kn y3.d.kc) ∧ wx.cell? ⟨w.heap.size + 1 + 1, 2, none⟩ = some (.slice y3.d.gA y3.d.gn y3.d.gc) ∧ wx.cell? ⟨w.heap.size + 1 + 1, 3, none⟩ = some (.slice y3.d.iA y3.d.im y3.d.ic) ∧ wx.cell? ⟨w.heap.size + 1 + 1, 4, none⟩ = some (.slice y3.cA y3.cn y3.cc) ∧ wx.cell? ⟨w.heap.size + 1 + 1, 5, none⟩ = some (.slice y3.mA y3.mn y3.mc) ∧ wx.cell? ⟨w.heap.size + 1 + 1, 6, none⟩ = some (.slice y3.eA y3.en y3.ec))
          (((with_reducible refine HS.out _ ?_); (repeat' first | with_reducible exact Below.refl _ _ | with_reducible assumption | with_reducible refine Below.drew ?_)))
          (first
            | (go_at_call 43
               (with_reducible refine (HN1a.out _ ?hb).mono ?_)
               case hb => (repeat' first | with_reducible exact Below.refl _ _ | with_reducible refine Below.drew ?_)
               rintro e w14 ⟨A14, c14, rfl, ho14, hb14⟩
               have hB14 : Below w13.heap.size w13 w14 := ((Below.refl w13.heap.size w13).drew).trans hb14)
            | (go_at_call 48
               (with_reducible refine (sumInts_any A14 _ c14 w14.heap.size F1 w14 ?r1 rfl ?nc (Nat.le_refl _) ?hx).mono ?_)
               case hx => exact HR.out.1.1
               case r1 => exact (Rd.of_own ho14)
               case nc => (have h8 := HR.out.2.1; omega)
               rintro e w15 ⟨rfl, hb15⟩
               have hB15 : Below w13.heap.size w13 w15 := hB14.trans (hb15.mono hB14.size))
            | (go_at_call 43
               (with_reducible refine (HN2a.out _ ?hb).mono ?_)
               case hb => exact hB15
               rintro e w16 ⟨A16, c16, rfl, ho16, hb16⟩
               have hB16 : Below w13.heap.size w13 w16 := hB15.trans (hb16.mono hB15.size))
            | (go_at_call 48
               (with_reducible refine (sumInts_any A16 _ c16 w16.heap.size F3 w16 ?r1 rfl ?nc (Nat.le_refl _) ?hx).mono ?_)
               case hx => exact HR.out.1.2.2
               case r1 => exact (Rd.of_own ho16)
               case nc => (have h8 := HR.out.2.2.2; omega)
               rintro e w17 ⟨rfl, hb17⟩
               have hB17 : Below w13.heap.size w13 w17 := hB16.trans (hb17.mono hB16.size)))
        have D17 : Hid (DsB w w17 y1 y2 y3) := Lib.hid (D13.out.below hB17)
        have HG17 := Lib.hid (HG13.out.below hB17 HG13.out.lt)
        have HB17 : Hid (Below w11.heap.size w11 w17) := Lib.hid (HB13.out.trans (hB17.mono HB13.out.size))
        clear ho14 ho16 hb14 hb15 hb16 hb17 hB14 hB15 hB16 hB17 HS HN1a HN2a D13 HG13
        by_cases hsum : sumI F1 = sumI F3
        · have t1 : (sumI F1 == sumI F3) = true := by simp [hsum]
          clear hsum
          go_wp2_with fail
          go_ret
          exact ⟨rfl, D17.out.bel⟩
        · have t1 : (sumI F1 == sumI F3) = false := by simp [hsum]
          obtain ⟨rfl, hup⟩ := HUU.out.2.2 HBIG.out (fun h => hsum h.symm)
          have HSZ : Hid (Calls Try.prog 47 #[.agg #[.int .i64 u.T, .slice u.d.kA u.d.kn u.d.kc, .slice u.d.gA u.d.gn u.d.gc, .slice u.d.iA u.d.im u.d.ic, .slice u.cA u.cn u.cc, .slice u.mA u.mn u.mc, .slice u.eA u.en u.ec], .agg #[.int .i64 0, .slice none 0 0, .slice none 0 0, .slice none 0 0, .slice none 0 0, .slice none 0 0, .slice none 0 0]] w17 fun e w' => e = .returned (.bool true) ∧ Below w17.heap.size w17 w') := Lib.hid (HSU.out zeroS w17 (zeroS_ok _) HB17.out (by rw [hup]) (by rw [zeroS_flat]; decide) zeroS_r)
          clear hup hsum
          have m0 : w17.cell? ⟨g, 0, none⟩ = some (.int .i64 u.T) := HG17.out.cell 0
          have m1 : w17.cell? ⟨g, 1, none⟩ = some (.slice u.d.kA u.d.kn u.d.kc) := HG17.out.cell 1
          have m2 : w17.cell? ⟨g, 2, none⟩ = some (.slice u.d.gA u.d.gn u.d.gc) := HG17.out.cell 2
          have m3 : w17.cell? ⟨g, 3, none⟩ = some (.slice u.d.iA u.d.im u.d.ic) := HG17.out.cell 3
          have m4 : w17.cell? ⟨g, 4, none⟩ = some (.slice u.cA u.cn u.cc) := HG17.out.cell 4
          have m5 : w17.cell? ⟨g, 5, none⟩ = some (.slice u.mA u.mn u.mc) := HG17.out.cell 5
          have m6 : w17.cell? ⟨g, 6, none⟩ = some (.slice u.eA u.en u.ec) := HG17.out.cell 6
          go_wp2_with fail
          refine HSZ.out.mono ?_
          rintro e w18 ⟨rfl, hb18⟩
          go_wp2_with fail
          go_ret
          exact ⟨rfl, (D17.out.below hb18).bel⟩
  · have HOK := Lib.hid hok
    have HDEC : Hid (decide (encOk F1 F2) = false) := Lib.hid (decide_eq_false hok)
    clear hok
    go_wp2_with fail
    refine HM.out.mono ?_
    rintro e w1 (⟨hyes, _⟩ | ⟨_, A1, c1, rfl, ho1, hb1⟩)
    · exact absurd hyes HOK.out
    clear ho1
    have D1 : Hid (DsB w w1 y1 y2 y3) := Lib.hid (HD0.out.below hb1)
    have HB1 := Lib.hid hb1
    clear a0 a1 a2 a3 a4 a5 a6 b0 b1 b2 b3 b4 b5 b6 HM HD0
    go_upto_region 2 with fail
    have HS : Hid (∀ wx, Below w1.heap.size w1 wx → wx.cell? ⟨w.heap.size, 0, none⟩ = some (.int .i64 y1.T) ∧ wx.cell? ⟨w.heap.size, 1, none⟩ = some (.slice y1.d.kA y1.d.kn y1.d.kc) ∧ wx.cell? ⟨w.heap.size, 2, none⟩ = some (.slice y1.d.gA y1.d.gn y1.d.gc) ∧ wx.cell? ⟨w.heap.size, 3, none⟩ = some (.slice y1.d.iA y1.d.im y1.d.ic) ∧ wx.cell? ⟨w.heap.size, 4, none⟩ = some (.slice y1.cA y1.cn y1.cc) ∧ wx.cell? ⟨w.heap.size, 5, none⟩ = some (.slice y1.mA y1.mn y1.mc) ∧ wx.cell? ⟨w.heap.size, 6, none⟩ = some (.slice y1.eA y1.en y1.ec) ∧ wx.cell? ⟨w.heap.size + 1, 0, none⟩ = some (.int .i64 y2.T) ∧ wx.cell? ⟨w.heap.size + 1, 1, none⟩ = some (.slice y2.d.kA y2.d.kn y2.d.kc) ∧ wx.cell? ⟨w.heap.size + 1, 2, none⟩ = some (.slice y2.d.gA y2.d.gn y2.d.gc) ∧ wx.cell? ⟨w.heap.size + 1, 3, none⟩ = some (.slice y2.d.iA y2.d.im y2.d.ic) ∧ wx.cell? ⟨w.heap.size + 1, 4, none⟩ = some (.slice y2.cA y2.cn y2.cc) ∧ wx.cell? ⟨w.heap.size + 1, 5, none⟩ = some (.slice y2.mA y2.mn y2.mc) ∧ wx.cell? ⟨w.heap.size + 1, 6, none⟩ = some (.slice y2.eA y2.en y2.ec)) := Lib.hid fun wx hb => by
      have d := D1.out.below hb
      exact ⟨d.b1.cell 0, d.b1.cell 1, d.b1.cell 2, d.b1.cell 3, d.b1.cell 4, d.b1.cell 5, d.b1.cell 6, d.b2.cell 0, d.b2.cell 1, d.b2.cell 2, d.b2.cell 3, d.b2.cell 4, d.b2.cell 5, d.b2.cell 6⟩
    have HN1a : Hid (∀ wz, Below w1.heap.size w1 wz → Calls Try.prog 43 #[.agg #[.int .i64 y1.T, .slice y1.d.kA y1.d.kn y1.d.kc, .slice y1.d.gA y1.d.gn y1.d.gc, .slice y1.d.iA y1.d.im y1.d.ic, .slice y1.cA y1.cn y1.cc, .slice y1.mA y1.mn y1.mc, .slice y1.eA y1.en y1.ec]] wz (RetS wz 3 1 F1.length (F1.map (Value.int .i64)))) := Lib.hid fun wz hb => HN1.out wz (D1.out.below hb).bel
    have HN2a : Hid (∀ wz, Below w1.heap.size w1 wz → Calls Try.prog 43 #[.agg #[.int .i64 y2.T, .slice y2.d.kA y2.d.kn y2.d.kc, .slice y2.d.gA y2.d.gn y2.d.gc, .slice y2.d.iA y2.d.im y2.d.ic, .slice y2.cA y2.cn y2.cc, .slice y2.mA y2.mn y2.mc, .slice y2.eA y2.en y2.ec]] wz (RetS wz 3 1 F2.length (F2.map (Value.int .i64)))) := Lib.hid fun wz hb => HN2.out wz (D1.out.below hb).bel
    go_region_held3 (fun wx => wx.cell? ⟨w.heap.size, 0, none⟩ = some (.int .i64 y1.T) ∧ wx.cell? ⟨w.heap.size, 1, none⟩ = some (.slice y1.d.kA y1.d.kn y1.d.kc) ∧ wx.cell? ⟨w.heap.size, 2, none⟩ = some (.slice y1.d.gA y1.d.gn y1.d.gc) ∧ wx.cell? ⟨w.heap.size, 3, none⟩ = some (.slice y1.d.iA y1.d.im y1.d.ic) ∧ wx.cell? ⟨w.heap.size, 4, none⟩ = some (.slice y1.cA y1.cn y1.cc) ∧ wx.cell? ⟨w.heap.size, 5, none⟩ = some (.slice y1.mA y1.mn y1.mc) ∧ wx.cell? ⟨w.heap.size, 6, none⟩ = some (.slice y1.eA y1.en y1.ec) ∧ wx.cell? ⟨w.heap.size + 1, 0, none⟩ = some (.int .i64 y2.T) ∧ wx.cell? ⟨w.heap.size + 1, 1, none⟩ = some (.slice y2.d.kA y2.d.kn y2.d.kc) ∧ wx.cell? ⟨w.heap.size + 1, 2, none⟩ = some (.slice y2.d.gA y2.d.gn y2.d.gc) ∧ wx.cell? ⟨w.heap.size + 1, 3, none⟩ = some (.slice y2.d.iA y2.d.im y2.d.ic) ∧ wx.cell? ⟨w.heap.size + 1, 4, none⟩ = some (.slice y2.cA y2.cn y2.cc) ∧ wx.cell? ⟨w.heap.size + 1, 5, none⟩ = some (.slice y2.mA y2.mn y2.mc) ∧ wx.cell? ⟨w.heap.size + 1, 6, none⟩ = some (.slice y2.eA y2.en y2.ec))
      (((with_reducible refine HS.out _ ?_); (repeat' first | with_reducible exact Below.refl _ _ | with_reducible assumption | with_reducible refine Below.drew ?_)))
      (first
        | (go_at_call 43
           (with_reducible refine (HN1a.out _ ?hb).mono ?_)
           case hb => (repeat' first | with_reducible exact Below.refl _ _ | with_reducible refine Below.drew ?_)
           rintro e w2 ⟨A2, c2, rfl, ho2, hb2⟩
           have hB2 : Below w1.heap.size w1 w2 := ((Below.refl w1.heap.size w1).drew).trans hb2)
        | (go_at_call 43
           (with_reducible refine (HN2a.out _ ?hb).mono ?_)
           case hb => exact hB2
           rintro e w3 ⟨A3, c3, rfl, ho3, hb3⟩
           have hB3 : Below w1.heap.size w1 w3 := hB2.trans (hb3.mono hB2.size))
        | (go_at_call 42
           (with_reducible refine (refDiff_any A2 A3 _ c2 _ c3 w3.heap.size F1 F2 w3 ?r1 ?r2 rfl rfl ?nc HR.out.1.1 HR.out.1.2.1 (Nat.le_refl _)).mono ?_)
           case r1 => exact (Rd.of_own (own_keepU ho2 hb3))
           case r2 => exact (Rd.of_own ho3)
           case nc => exact ⟨HR.out.2.1, HR.out.2.2.1⟩
           unfold DiffPost
           rintro e w4 ⟨A4, c4, rfl, ho4, hb4⟩
           have hB4 : Below w1.heap.size w1 w4 := hB3.trans (hb4.mono hB3.size)))
    (try rw [HDEC.out])
    have D4 : Hid (DsB w w4 y1 y2 y3) := Lib.hid (D1.out.below hB4)
    rw [← HDD.out] at ho4 ⊢
    have HO4 := Lib.hid ho4
    have HB4 := Lib.hid hB4
    have HZ34 : Hid (w1.heap.size ≤ w3.heap.size) := Lib.hid hB3.size
    clear ho2 ho3 ho4 hb2 hb3 hb4 hB2 hB3 hB4 HS HN1a HN2a
    go_wp2_with fail
    refine (differsL_any _).mono ?_
    rintro e w5 ⟨rfl, hb5⟩
    have D5 : Hid (DsB w w5 y1 y2 y3) := Lib.hid (D4.out.below hb5)
    clear hb5
    go_wp2_with fail
    go_ret
    exact ⟨rfl, D5.out.bel⟩
end Go.Proofs.Ytnidcmhfbkdioaa
