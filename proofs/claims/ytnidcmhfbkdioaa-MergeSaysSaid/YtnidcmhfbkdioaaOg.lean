/-
  The contract of tourref4.Merged. Conditions: valid worlds of the same kinds that can be read.
-/
import Derived.Test.YtnidcmhfbkdioaaOf
import Derived.Test.YtnidcmhfbkdioaaOe
import Derived.Test.YtnidcmhfbkdioaaMs
namespace Go.Proofs.Ytnidcmhfbkdioaa
open Go.RowKit
set_option maxRecDepth 100000

def zIt : It := ⟨0, 0, none, 0, 0, []⟩
abbrev Sl := It × Bool
def SlotOK (V : Wd) (n : Nat) (t : Sl) : Prop := (t.2 = true ∧ t.1 ∈ V.its ∧ findI V.p.its n = some t.1.p) ∨ (t.2 = false ∧ findI V.p.its n = none ∧ t.1 = zIt)
theorem SlotOK.of_item {V : Wd} {n : Nat} {e : Ending} (h : ItemP V n e) : ∃ t : Sl, SlotOK V n t ∧ e = .returned (.tuple #[.agg #[.int .i64 t.1.e, .int .i64 t.1.g, .slice t.1.A t.1.n t.1.c], .bool t.2]) := by
  rcases h with ⟨it, h1, h2, h3, h4⟩ | ⟨h1, h2⟩
  · exact ⟨(it, true), .inl ⟨rfl, h1, h3⟩, h4⟩
  · exact ⟨(zIt, false), .inr ⟨rfl, h1, rfl⟩, h2⟩
theorem zIt_ok {w : World} {B : Nat} (hB : B ≤ w.heap.size) : ItOk w B zIt := ⟨⟨Rd.nil_ _, rfl, Nat.le_refl _, by show (0 : Nat) ≤ _; omega, (fun x hx => by cases hx), hB⟩, by decide, by decide⟩
theorem SlotOK.ok {w : World} {B n : Nat} {V : Wd} {t : Sl} (h : SlotOK V n t) (hV : WdOk w B V) : ItOk w B t.1 := by
  rcases h with ⟨_, h1, _⟩ | ⟨_, _, h1⟩
  · exact hV.its.ok _ h1
  · rw [h1]; exact zIt_ok hV.its.lo
def nine9 (T : Nat → Sl) : Array Value := #[.int .i64 (T 0).1.e, .int .i64 (T 0).1.g, .slice (T 0).1.A (T 0).1.n (T 0).1.c, .int .i64 (T 1).1.e, .int .i64 (T 1).1.g, .slice (T 1).1.A (T 1).1.n (T 1).1.c, .int .i64 (T 2).1.e, .int .i64 (T 2).1.g, .slice (T 2).1.A (T 2).1.n (T 2).1.c]
def is3 (T : Nat → Sl) : Array Value := #[.bool (T 0).2, .bool (T 1).2, .bool (T 2).2]
def putS (T : Nat → Sl) (i : Nat) (t : Sl) : Nat → Sl := fun j => if j = i then t else T j
theorem nine9_at {w : World} {b : Nat} {T : Nat → Sl} (h : Bk w b 204 (nine9 T)) {i : Nat} (hi : i < 3) :
    w.cell? ⟨b, i * 3, none⟩ = some (.int .i64 (T i).1.e) ∧ w.cell? ⟨b, i * 3 + 1, none⟩ = some (.int .i64 (T i).1.g) ∧ w.cell? ⟨b, i * 3 + 2, none⟩ = some (.slice (T i).1.A (T i).1.n (T i).1.c) := by
  have h0 : i = 0 ∨ i = 1 ∨ i = 2 := by omega
  rcases h0 with rfl | rfl | rfl
  · exact ⟨h.cell 0, h.cell 1, h.cell 2⟩
  · exact ⟨h.cell 3, h.cell 4, h.cell 5⟩
  · exact ⟨h.cell 6, h.cell 7, h.cell 8⟩
theorem is3_at {w : World} {b : Nat} {T : Nat → Sl} (h : Bk w b 205 (is3 T)) {i : Nat} (hi : i < 3) : w.cell? ⟨b, i, none⟩ = some (.bool (T i).2) := by
  have h0 : i = 0 ∨ i = 1 ∨ i = 2 := by omega
  rcases h0 with rfl | rfl | rfl
  · exact h.cell 0
  · exact h.cell 1
  · exact h.cell 2
theorem nine9_set {w : World} {b : Nat} {T : Nat → Sl} (h : Bk w b 204 (nine9 T)) {i : Nat} (hi : i < 3) (t : Sl) :
    Bk (((w.setCell ⟨b, i * 3, none⟩ (.int .i64 t.1.e)).setCell ⟨b, i * 3 + 1, none⟩ (.int .i64 t.1.g)).setCell ⟨b, i * 3 + 2, none⟩ (.slice t.1.A t.1.n t.1.c)) b 204 (nine9 (putS T i t)) := by
  have h0 : i = 0 ∨ i = 1 ∨ i = 2 := by omega
  rcases h0 with rfl | rfl | rfl
  · simpa [nine9, putS] using ((h.set_ 0 (.int .i64 t.1.e)).set_ 1 (.int .i64 t.1.g)).set_ 2 (.slice t.1.A t.1.n t.1.c)
  · simpa [nine9, putS] using ((h.set_ 3 (.int .i64 t.1.e)).set_ 4 (.int .i64 t.1.g)).set_ 5 (.slice t.1.A t.1.n t.1.c)
  · simpa [nine9, putS] using ((h.set_ 6 (.int .i64 t.1.e)).set_ 7 (.int .i64 t.1.g)).set_ 8 (.slice t.1.A t.1.n t.1.c)
theorem is3_set {w : World} {b : Nat} {T : Nat → Sl} (h : Bk w b 205 (is3 T)) {i : Nat} (hi : i < 3) (t : Sl) : Bk (w.setCell ⟨b, i, none⟩ (.bool t.2)) b 205 (is3 (putS T i t)) := by
  have h0 : i = 0 ∨ i = 1 ∨ i = 2 := by omega
  rcases h0 with rfl | rfl | rfl
  · simpa [is3, putS] using h.set_ 0 (.bool t.2)
  · simpa [is3, putS] using h.set_ 1 (.bool t.2)
  · simpa [is3, putS] using h.set_ 2 (.bool t.2)
theorem SlotOK.arr {w : World} {B n bi bt j : Nat} {V : Wd} {T : Nat → Sl} (h : SlotOK V n (T j)) (hV : WdOk w B V) (hj : j < 3) (hi : Bk w bi 205 (is3 T)) (ht : Bk w bt 204 (nine9 T)) : ArrV w B bi bt j (T j).1 (T j).2 (findI V.p.its n) := by
  obtain ⟨c0, c1, c2⟩ := nine9_at ht hj
  refine ⟨is3_at hi hj, c0, c1, c2, h.ok hV, ?_⟩
  rcases h with ⟨h1, _, h2⟩ | ⟨h1, h2, h3⟩
  · exact .inl ⟨h1, h2⟩
  · exact .inr ⟨h1, h2, by rw [h3]; rfl⟩
def wd3 (O X Y : Wd) (i : Nat) : Wd := if i = 0 then O else if i = 1 then X else Y
theorem wd3_all {p : Wd → Prop} {O X Y : Wd} (h1 : p O) (h2 : p X) (h3 : p Y) (i : Nat) : p (wd3 O X Y i) := by
  unfold wd3; split
  · exact h1
  · split
    · exact h2
    · exact h3
def g3 (a b c : Int) (i : Nat) : Int := if i = 0 then a else if i = 1 then b else c
theorem g3_acc {a b c : Int} {i : Nat} (h : i < 3) : gAcc a b c (i + 1) = max (gAcc a b c i) (g3 a b c i) := by
  apply gAcc_step
  have h0 : i = 0 ∨ i = 1 ∨ i = 2 := by omega
  rcases h0 with rfl | rfl | rfl <;> rfl
theorem idx203_0 (O X Y : Wd) (wx : World) : (Instr.index 203 (.agg #[.slice O.kA O.kn O.kc, .slice O.gA O.gn O.gc, .slice O.iA O.im O.ic, .slice X.kA X.kn X.kc, .slice X.gA X.gn X.gc, .slice X.iA X.im X.ic, .slice Y.kA Y.kn Y.kc, .slice Y.gA Y.gn Y.gc, .slice Y.iA Y.im Y.ic]) (.int .i64 0)).run Try.prog wx = .ok (.agg #[.slice O.kA O.kn O.kc, .slice O.gA O.gn O.gc, .slice O.iA O.im O.ic]) wx := by kernel_rfl
theorem idx203_1 (O X Y : Wd) (wx : World) : (Instr.index 203 (.agg #[.slice O.kA O.kn O.kc, .slice O.gA O.gn O.gc, .slice O.iA O.im O.ic, .slice X.kA X.kn X.kc, .slice X.gA X.gn X.gc, .slice X.iA X.im X.ic, .slice Y.kA Y.kn Y.kc, .slice Y.gA Y.gn Y.gc, .slice Y.iA Y.im Y.ic]) (.int .i64 1)).run Try.prog wx = .ok (.agg #[.slice X.kA X.kn X.kc, .slice X.gA X.gn X.gc, .slice X.iA X.im X.ic]) wx := by kernel_rfl
theorem idx203_2 (O X Y : Wd) (wx : World) : (Instr.index 203 (.agg #[.slice O.kA O.kn O.kc, .slice O.gA O.gn O.gc, .slice O.iA O.im O.ic, .slice X.kA X.kn X.kc, .slice X.gA X.gn X.gc, .slice X.iA X.im X.ic, .slice Y.kA Y.kn Y.kc, .slice Y.gA Y.gn Y.gc, .slice Y.iA Y.im Y.ic]) (.int .i64 2)).run Try.prog wx = .ok (.agg #[.slice Y.kA Y.kn Y.kc, .slice Y.gA Y.gn Y.gc, .slice Y.iA Y.im Y.ic]) wx := by kernel_rfl
theorem idx203 (O X Y : Wd) {i : Nat} (hi : i < 3) (wx : World) : (Instr.index 203 (.agg #[.slice O.kA O.kn O.kc, .slice O.gA O.gn O.gc, .slice O.iA O.im O.ic, .slice X.kA X.kn X.kc, .slice X.gA X.gn X.gc, .slice X.iA X.im X.ic, .slice Y.kA Y.kn Y.kc, .slice Y.gA Y.gn Y.gc, .slice Y.iA Y.im Y.ic]) (.int .i64 (i : Int))).run Try.prog wx = .ok (.agg #[.slice (wd3 O X Y i).kA (wd3 O X Y i).kn (wd3 O X Y i).kc, .slice (wd3 O X Y i).gA (wd3 O X Y i).gn (wd3 O X Y i).gc, .slice (wd3 O X Y i).iA (wd3 O X Y i).im (wd3 O X Y i).ic]) wx := by
  have h0 : i = 0 ∨ i = 1 ∨ i = 2 := by omega
  rcases h0 with rfl | rfl | rfl
  · exact idx203_0 O X Y wx
  · exact idx203_1 O X Y wx
  · exact idx203_2 O X Y wx

theorem slot_notR {K : Nat} {n : Int} {O X Y : Option Iv} (h : ¬ ∃ o x y, O = some o ∧ X = some x ∧ Y = some y ∧ o.1 = x.1 ∧ o.1 = y.1) : slotF K O X Y = (pick O X Y).1 ∧ slotC n K O X Y = if (pick O X Y).2 = true then [(0, n, 0, 0)] else [] := by
  cases O with
  | none => exact ⟨rfl, rfl⟩
  | some o =>
    cases X with
    | none => exact ⟨rfl, rfl⟩
    | some x =>
      cases Y with
      | none => exact ⟨rfl, rfl⟩
      | some y =>
        have h2 : ¬ (o.1 = x.1 ∧ o.1 = y.1) := fun e => h ⟨o, x, y, rfl, rfl, rfl, e.1, e.2⟩
        exact ⟨by show (if _ then _ else _) = _; rw [if_neg h2], by show (if _ then _ else _) = _; rw [if_neg h2]⟩
theorem slot_yesR {K : Nat} {n : Int} {o x y : Iv} (h1 : o.1 = x.1) (h2 : o.1 = y.1) : slotF K (some o) (some x) (some y) = some (x.1, compsF K o.2 x.2 y.2) ∧ slotC n K (some o) (some x) (some y) = compsC n K o.2 x.2 y.2 :=
  ⟨by show (if _ then _ else _) = _; rw [if_pos ⟨h1, h2⟩], by show (if _ then _ else _) = _; rw [if_pos ⟨h1, h2⟩]⟩
theorem ArrV.below {w w' : World} {B bi bt j : Nat} {x : It} {b : Bool} {o : Option Iv} (h : ArrV w B bi bt j x b o) (hb : Below w.heap.size w w') (h1 : bi < w.heap.size) (h2 : bt < w.heap.size) (hB : B ≤ w.heap.size) : ArrV w' B bi bt j x b o :=
  ⟨(hb.cell (p := ⟨bi, j, none⟩) h1).trans h.ci, (hb.cell (p := ⟨bt, j * 3, none⟩) h2).trans h.c0, (hb.cell (p := ⟨bt, j * 3 + 1, none⟩) h2).trans h.c1, (hb.cell (p := ⟨bt, j * 3 + 2, none⟩) h2).trans h.c2, h.ok.below (hb.mono hB), h.is⟩
theorem wpAnyE_two {P : Program} {ops : Array Oper} {Q : Exit → Act → World → Prop} {md : Region.Mode} {S : World → Prop} {last i j : Nat} {oi oj : Oper} {fuel : Nat} {listed : Array Bool} {a : Act} {w : World} (hi : ops[i]? = some oi) (hj : ops[j]? = some oj) (hr : Region.ready md ops listed = [i, j]) (hgi : oi.guard = none) (hgj : oj.guard = none)
    (h1 : oi.wp P a w (fun a' w' => (i ≠ last → S w') ∧ wpAnyE P md ops Q S last fuel (listed.setIfInBounds i true) a' w') Q) (h2 : oj.wp P a w (fun a' w' => (j ≠ last → S w') ∧ wpAnyE P md ops Q S last fuel (listed.setIfInBounds j true) a' w') Q) : wpAnyE P md ops Q S last (fuel + 1) listed a w :=
  ⟨(fun h0 => by rw [hr] at h0; cases h0), fun k hk => by
    rw [hr] at hk
    unfold wpOp
    rcases (by simpa using hk : k = i ∨ k = j) with e | e
    · subst e
      have hw : Region.wanted oi (yielded ops a.tmps) = true := by simp [Region.wanted, hgi]
      simp only [hi, hw, if_true]
      exact .inl h1
    · subst e
      have hw : Region.wanted oj (yielded ops a.tmps) = true := by simp [Region.wanted, hgj]
      simp only [hj, hw, if_true]
      exact .inl h2⟩
theorem clCs_app (a b : List Cl) : clCs (a ++ b) = clCs a ++ clCs b := by simp [clCs]

def L4 (m ho ha N : Nat) (w : World) (B : Nat) (O X Y : Wd) (ykA : Option Addr) (ykn ykc : Nat) (yks : List Kd) (cv nv : Value) (wr : World) : Prop :=
  ∃ (n q gc ic cn cc : Nat) (GA IA CA : Option Addr) (its : List It), n ≤ N ∧ q ≤ n ∧ nv = .int .i64 n ∧ cv = .slice CA cn cc ∧ Hid (TI w.heap.size m ho wr B O X Y ykA ykn ykc yks GA n gc (gensF O.p X.p Y.p n) IA q ic its) ∧ Hid (its.map It.p = itsF O.kn O.p.its X.p.its Y.p.its n) ∧ Hid (CR m wr CA cn cc (clsF O.kn O.p.its X.p.its Y.p.its n)) ∧ Hid (Bk wr ha 203 #[.slice O.kA O.kn O.kc, .slice O.gA O.gn O.gc, .slice O.iA O.im O.ic, .slice X.kA X.kn X.kc, .slice X.gA X.gn X.gc, .slice X.iA X.im X.ic, .slice Y.kA Y.kn Y.kc, .slice Y.gA Y.gn Y.gc, .slice Y.iA Y.im Y.ic]) ∧ Hid (Below w.heap.size w wr)

set_option maxHeartbeats 16000000 in
theorem mergedR_any {w : World} {B : Nat} {O X Y : Wd} (hO : WdOk w B O) (hX : WdOk w B X) (hY : WdOk w B Y) (cO : wcheckF O.p = 0) (cX : wcheckF X.p = 0) (cY : wcheckF Y.p = 0) (kX : X.p.ks = O.p.ks) (kY : Y.p.ks = O.p.ks) :
    Calls Try.prog 37 #[.agg #[.slice O.kA O.kn O.kc, .slice O.gA O.gn O.gc, .slice O.iA O.im O.ic], .agg #[.slice X.kA X.kn X.kc, .slice X.gA X.gn X.gc, .slice X.iA X.im X.ic], .agg #[.slice Y.kA Y.kn Y.kc, .slice Y.gA Y.gn Y.gc, .slice Y.iA Y.im Y.ic]] w fun e w' => ∃ (Z : Wd) (CA : Option Addr) (n c : Nat), e = .returned (.tuple #[.agg #[.slice Z.kA Z.kn Z.kc, .slice Z.gA Z.gn Z.gc, .slice Z.iA Z.im Z.ic], .slice CA n c]) ∧ Hid (WdY w' 0 Z ∧ Z.p = mergeF O.p X.p Y.p) ∧ Hid (n = (mergeC O.p X.p Y.p).length ∧ n ≤ c ∧ c ≤ 9223372036854775807 ∧ RdY w' 0 73 4 CA n (clCs (mergeC O.p X.p Y.p))) ∧ Below w.heap.size w w' := by
  obtain ⟨W0, hW0⟩ : ∃ W0, W0 = (((w.alloc (.cells #[.slice O.kA O.kn O.kc, .slice O.gA O.gn O.gc, .slice O.iA O.im O.ic] 52)).alloc (.cells #[.slice X.kA X.kn X.kc, .slice X.gA X.gn X.gc, .slice X.iA X.im X.ic] 52)).alloc (.cells #[.slice Y.kA Y.kn Y.kc, .slice Y.gA Y.gn Y.gc, .slice Y.iA Y.im Y.ic] 52)).alloc (.cells #[.slice none 0 0, .slice none 0 0, .slice none 0 0] 52) := ⟨_, rfl⟩
  have hb0 : Below w.heap.size w W0 := by rw [hW0]; exact Below.al (Below.al (Below.al (Below.al (Below.refl _ _) _) _) _) _
  have k0 : Bk W0 w.heap.size 52 #[.slice O.kA O.kn O.kc, .slice O.gA O.gn O.gc, .slice O.iA O.im O.ic] := by rw [hW0]; exact (((Bk.new w 52 _).alloc _).alloc _).alloc _
  have k1 : Bk W0 (w.heap.size + 1) 52 #[.slice X.kA X.kn X.kc, .slice X.gA X.gn X.gc, .slice X.iA X.im X.ic] := by rw [hW0]; exact ((Bk.two w _ 52 _).alloc _).alloc _
  have k2 : Bk W0 (w.heap.size + 2) 52 #[.slice Y.kA Y.kn Y.kc, .slice Y.gA Y.gn Y.gc, .slice Y.iA Y.im Y.ic] := by rw [hW0]; exact (Bk.three w _ _ 52 _).alloc _
  have k3 : Bk W0 (w.heap.size + 3) 52 #[.slice none 0 0, .slice none 0 0, .slice none 0 0] := by rw [hW0]; simpa using Bk.new (((w.alloc (.cells #[.slice O.kA O.kn O.kc, .slice O.gA O.gn O.gc, .slice O.iA O.im O.ic] 52)).alloc (.cells #[.slice X.kA X.kn X.kc, .slice X.gA X.gn X.gc, .slice X.iA X.im X.ic] 52)).alloc (.cells #[.slice Y.kA Y.kn Y.kc, .slice Y.gA Y.gn Y.gc, .slice Y.iA Y.im Y.ic] 52)) 52 #[.slice none 0 0, .slice none 0 0, .slice none 0 0]
  have hBw : B ≤ w.heap.size := hO.ks.lo
  have HBX := Lib.hid (And.intro k0 (And.intro k1 (And.intro k2 k3)))
  have HB0 := Lib.hid hb0
  have HO := Lib.hid hO
  have HX := Lib.hid hX
  have HY := Lib.hid hY
  have HCC := Lib.hid (And.intro cO (And.intro cX (And.intro cY (And.intro kX kY))))
  have HCP := Lib.hid (copyR_any (hO.below (hb0.mono hBw)) (small_of (vw_of cO).1 (vw_of cO).2))
  have o0 : W0.cell? ⟨w.heap.size, 0, none⟩ = some (.slice O.kA O.kn O.kc) := k0.cell 0
  have o1 : W0.cell? ⟨w.heap.size, 1, none⟩ = some (.slice O.gA O.gn O.gc) := k0.cell 1
  have o2 : W0.cell? ⟨w.heap.size, 2, none⟩ = some (.slice O.iA O.im O.ic) := k0.cell 2
  clear hO hX hY cO cX cY kX kY hb0 k0 k1 k2 k3
  go_enter Try.func37, Try.ntmps37
  go_upto_region 1 with fail
  rw [← hW0]
  clear hW0
  go_wp2_with fail
  (with_reducible refine HCP.out.mono ?_)
  rintro e w5 ⟨⟨ykA, ykn, ykc, yks, ygA, ygn, ygc, ygens, yiA, yim, yic, yits⟩, rfl, hy, hb5⟩
  dsimp only at hy ⊢
  have hfld : ∀ wx, (Instr.field 52 (.agg #[.slice ykA ykn ykc, .slice ygA ygn ygc, .slice yiA yim yic]) 0).run Try.prog wx = .ok (.slice ykA ykn ykc) wx := fun _ => by kernel_rfl
  have HKY : Hid (KsY w5 0 ykA ykn ykc yks ∧ yks.map Kd.p = O.ks.map Kd.p) := Lib.hid ⟨hy.out.1.ks, congrArg Wv.ks hy.out.2.1⟩
  obtain ⟨ho, hho⟩ : ∃ ho, ho = w5.heap.size := ⟨_, rfl⟩
  obtain ⟨W6, hW6⟩ : ∃ W6, W6 = w5.alloc (.cells #[.slice ykA ykn ykc, .slice none 0 0, .slice none 0 0] 52) := ⟨_, rfl⟩
  have hb6 : Below W0.heap.size W0 W6 := by rw [hW6]; exact Below.al hb5 _
  have HBX6 : Hid (Bk W6 w.heap.size 52 #[.slice O.kA O.kn O.kc, .slice O.gA O.gn O.gc, .slice O.iA O.im O.ic] ∧ Bk W6 (w.heap.size + 1) 52 #[.slice X.kA X.kn X.kc, .slice X.gA X.gn X.gc, .slice X.iA X.im X.ic] ∧ Bk W6 (w.heap.size + 2) 52 #[.slice Y.kA Y.kn Y.kc, .slice Y.gA Y.gn Y.gc, .slice Y.iA Y.im Y.ic] ∧ Bk W6 (w.heap.size + 3) 52 #[.slice none 0 0, .slice none 0 0, .slice none 0 0]) := Lib.hid ⟨HBX.out.1.below2 hb6, HBX.out.2.1.below2 hb6, HBX.out.2.2.1.below2 hb6, HBX.out.2.2.2.below2 hb6⟩
  have hm0 : w.heap.size + 3 < W0.heap.size := HBX.out.2.2.2.lt
  have hmo : W0.heap.size ≤ ho := by rw [hho]; exact hb5.size
  have HK6 : Hid (Bk W6 ho 52 #[.slice ykA ykn ykc, .slice none 0 0, .slice none 0 0]) := Lib.hid (by rw [hW6, hho]; exact Bk.new _ _ _)
  have HKS6 : Hid (KsY W6 0 ykA ykn ykc yks) := Lib.hid (HKY.out.1.keep (F := []) (by rw [hW6]; exact (Kx.refl (B := 0)).alloc _) (by simp) (by simp))
  have HB6 : Hid (Below w.heap.size w W6) := Lib.hid (HB0.out.trans (hb6.mono HB0.out.size))
  have HHO := Lib.hid hho
  obtain ⟨m, hm⟩ : ∃ m, m = W0.heap.size := ⟨_, rfl⟩
  rw [← hm] at hm0 hmo
  clear hy hb5 hb6 hho HBX HB0 HCP o0 o1 o2 hm
  go_upto_region 3 with fail
  rw [← hW6, ← HHO.out]
  clear hW6
  have o0 : W6.cell? ⟨w.heap.size, 0, none⟩ = some (.slice O.kA O.kn O.kc) := HBX6.out.1.cell 0
  have o1 : W6.cell? ⟨w.heap.size, 1, none⟩ = some (.slice O.gA O.gn O.gc) := HBX6.out.1.cell 1
  have o2 : W6.cell? ⟨w.heap.size, 2, none⟩ = some (.slice O.iA O.im O.ic) := HBX6.out.1.cell 2
  have x0 : W6.cell? ⟨w.heap.size + 1, 0, none⟩ = some (.slice X.kA X.kn X.kc) := HBX6.out.2.1.cell 0
  have x1 : W6.cell? ⟨w.heap.size + 1, 1, none⟩ = some (.slice X.gA X.gn X.gc) := HBX6.out.2.1.cell 1
  have x2 : W6.cell? ⟨w.heap.size + 1, 2, none⟩ = some (.slice X.iA X.im X.ic) := HBX6.out.2.1.cell 2
  have y0 : W6.cell? ⟨w.heap.size + 1 + 1, 0, none⟩ = some (.slice Y.kA Y.kn Y.kc) := HBX6.out.2.2.1.cell 0
  have y1 : W6.cell? ⟨w.heap.size + 1 + 1, 1, none⟩ = some (.slice Y.gA Y.gn Y.gc) := HBX6.out.2.2.1.cell 1
  have y2 : W6.cell? ⟨w.heap.size + 1 + 1, 2, none⟩ = some (.slice Y.iA Y.im Y.ic) := HBX6.out.2.2.1.cell 2
  obtain ⟨ha, hha⟩ : ∃ ha, ha = W6.heap.size := ⟨_, rfl⟩
  obtain ⟨W7, hW7⟩ : ∃ W7, W7 = W6.alloc (.cells #[.slice O.kA O.kn O.kc, .slice O.gA O.gn O.gc, .slice O.iA O.im O.ic, .slice X.kA X.kn X.kc, .slice X.gA X.gn X.gc, .slice X.iA X.im X.ic, .slice Y.kA Y.kn Y.kc, .slice Y.gA Y.gn Y.gc, .slice Y.iA Y.im Y.ic] 203) := ⟨_, rfl⟩
  have HHA := Lib.hid hha
  have HK7 : Hid (Bk W7 ha 203 #[.slice O.kA O.kn O.kc, .slice O.gA O.gn O.gc, .slice O.iA O.im O.ic, .slice X.kA X.kn X.kc, .slice X.gA X.gn X.gc, .slice X.iA X.im X.ic, .slice Y.kA Y.kn Y.kc, .slice Y.gA Y.gn Y.gc, .slice Y.iA Y.im Y.ic]) := Lib.hid (by rw [hW7, hha]; exact Bk.new _ _ _)
  have HT0 : Hid (TI w.heap.size m ho W7 B O X Y ykA ykn ykc yks none 0 0 [] none 0 0 []) := Lib.hid (by
    rw [hW7]
    exact ⟨HBX6.out.1.alloc _, HBX6.out.2.1.alloc _, HBX6.out.2.2.1.alloc _, HBX6.out.2.2.2.alloc _, HK6.out.alloc _, HKS6.out.keep (F := []) (Kx.refl.alloc _) (by simp) (by simp), World.ownsRow_nil _ _ _ _, World.ownsRow_nil _ _ _ _, rfl, (fun x hx => by cases hx), (fun x hx => by cases hx), by omega⟩)
  have HB7 : Hid (Below w.heap.size w W7) := Lib.hid (by rw [hW7]; exact Below.al HB6.out _)
  clear hha
  go_upto_region 4 with fail
  rw [← hW7, ← HHA.out]
  clear hW7 o0 o1 o2 x0 x1 x2 y0 y1 y2 HBX6 HK6 HKS6 HB6
  obtain ⟨N, hN⟩ : ∃ N, N = slotsN O.p X.p Y.p := ⟨_, rfl⟩
  have hN2 : N = max X.gn (max Y.gn O.gn) := by rw [hN, HO.out.gs.len, HX.out.gs.len, HY.out.gs.len]; rfl
  have HN := Lib.hid hN
  have o1 : W7.cell? ⟨w.heap.size, 1, none⟩ = some (.slice O.gA O.gn O.gc) := HT0.out.bO.cell 1
  have x1 : W7.cell? ⟨w.heap.size + 1, 1, none⟩ = some (.slice X.gA X.gn X.gc) := HT0.out.bX.cell 1
  have y1 : W7.cell? ⟨w.heap.size + 1 + 1, 1, none⟩ = some (.slice Y.gA Y.gn Y.gc) := HT0.out.bY.cell 1
  clear hN
  go_cut [38, 39] from 29 to 37 (fun v v2 wx => v = .int .i64 N ∧ v2 = .int .i64 0 ∧ wx = W7)
  case first =>
    go_wp2_with fail
    all_goals
      go_meet
      case rel => exact ⟨congrArg (Value.int .i64) (by omega), rfl, rfl⟩
  case rest =>
    obtain ⟨rfl, rfl, hwc⟩ := hcut
    subst wc
    have HM0 : Hid (CR m W7 none 0 0 (clsF O.kn O.p.its X.p.its Y.p.its 0)) := Lib.hid ⟨World.ownsRow_nil _ _ _ _, rfl⟩
    have hBm : B ≤ m := by omega
    have HKP := Lib.hid HKY.out.2
    obtain ⟨h16, _⟩ := check_len (vw_of HCC.out.1).1
    have hkn16 : O.kn ≤ 16 := by rw [HO.out.ks.len]; simpa [Wd.p] using h16
    have HVO := Lib.hid (vw_of HCC.out.1).2
    have HVX := Lib.hid (vw_of HCC.out.2.1).2
    have HVY := Lib.hid (vw_of HCC.out.2.2.1).2
    have HKS := Lib.hid (And.intro HCC.out.2.2.2.1 HCC.out.2.2.2.2)
    have HC0 := Lib.hid (vw_of HCC.out.1).1
    have hN256 : N ≤ 256 := by
      have := HVO.out.many
      have := HVX.out.many
      have := HVY.out.many
      have := HN.out
      unfold slotsN at this
      omega
    obtain ⟨i3, hi3, hz30, hz31, hz32⟩ := info_parts T.info3
    obtain ⟨iI, hiI, hzI0, hzI1, hzI2⟩ := info_parts T.infoIt
    obtain ⟨iC, hiC, hzC0, hzC1, hzC2⟩ := info_parts T.infoCl
    clear HKY HCC h16 hfld hN2 o1 x1 y1
    go_wp2_with fail
    go_loopw [9, 39] (fun cv nv wr => L4 m ho ha N w B O X Y ykA ykn ykc yks cv nv wr) (fun _ nv _ => N - (intOf nv).toNat)
    case atStart => exact ⟨0, 0, 0, 0, 0, 0, none, none, none, [], Nat.zero_le _, Nat.le_refl _, rfl, rfl, HT0, Lib.hid rfl, HM0, HK7, HB7⟩
    case round =>
      clear HT0 HM0 HK7 HB7
      obtain ⟨n, q, gc, ic, cn, cc, GA, IA, CA, its, hn, hqn, rfl, rfl, HT, HI, HC, HA, HB⟩ := hrel
      obtain ⟨wo, rfl⟩ : ∃ x, x = wr := ⟨_, rfl⟩
      by_cases hlt : n < N
      · have hnz : (n : Int) < N := by omega
        have hn0 : (0 : Int) ≤ n := by omega
        obtain ⟨ht, hht⟩ : ∃ ht, ht = wo.heap.size := ⟨_, rfl⟩
        obtain ⟨hs, hhs⟩ : ∃ hs, hs = ht + 1 := ⟨_, rfl⟩
        obtain ⟨w1, hw1⟩ : ∃ w1, w1 = (wo.alloc (.cells (nine9 (fun _ => (zIt, false))) 204)).alloc (.cells (is3 (fun _ => (zIt, false))) 205) := ⟨_, rfl⟩
        have hB1 : Below wo.heap.size wo w1 := by rw [hw1]; exact Below.al (Below.al (Below.refl _ _) _) _
        have HB1 := Lib.hid hB1
        have HT1 : Hid (Bk w1 ht 204 (nine9 (fun _ => (zIt, false))) ∧ Bk w1 hs 205 (is3 (fun _ => (zIt, false)))) := Lib.hid (by rw [hw1, hhs, hht]; exact ⟨(Bk.new _ _ _).alloc _, Bk.two _ _ _ _⟩)
        have hka := HA.out.below2 hB1
        have a0 := hka.cell 0
        have a1 := hka.cell 1
        have a2 := hka.cell 2
        have a3 := hka.cell 3
        have a4 := hka.cell 4
        have a5 := hka.cell 5
        have a6 := hka.cell 6
        have a7 := hka.cell 7
        have a8 := hka.cell 8
        simp only [List.getElem?_toArray, List.getElem?_cons_zero, List.getElem?_cons_succ] at a0 a1 a2 a3 a4 a5 a6 a7 a8
        have HHT := Lib.hid (And.intro hht hhs)
        have hmw : m ≤ wo.heap.size := by have := HT.out.bo.lt; omega
        have hts : ht < hs := by omega
        have hwo : wo.heap.size ≤ ht := by omega
        dsimp only [nine9, is3, zIt] at hw1
        clear hB1 hka hht hhs
        go_upto_region 10 with fail
        rw [← hw1, ← HHT.out.1, ← HHT.out.2]
        clear hw1
        obtain ⟨ga, hga⟩ : ∃ ga, ga = O.gens.getD n 0 := ⟨_, rfl⟩
        obtain ⟨gb, hgb⟩ : ∃ gb, gb = X.gens.getD n 0 := ⟨_, rfl⟩
        obtain ⟨gd, hgd⟩ : ∃ gd, gd = Y.gens.getD n 0 := ⟨_, rfl⟩
        have HGG := Lib.hid (And.intro hga (And.intro hgb hgd))
        clear hga hgb hgd
        go_wp2_with fail
        go_loopw [14, 43] (fun gv iv wx => ∃ (i : Nat) (g : Int) (T : Nat → Sl), i ≤ 3 ∧ iv = .int .i64 i ∧ gv = .int .i64 g ∧ Hid (g = gAcc ga gb gd i) ∧ Hid (Bk wx ht 204 (nine9 T) ∧ Bk wx hs 205 (is3 T)) ∧ Hid (∀ j, j < i → SlotOK (wd3 O X Y j) n (T j)) ∧ Hid (Below wo.heap.size wo wx)) (fun _ iv _ => 3 - (intOf iv).toNat)
        case atStart => exact ⟨0, 0, _, by omega, rfl, rfl, Lib.hid rfl, HT1, Lib.hid (fun j hj => by omega), HB1⟩
        case round =>
          clear HT1 HB1 a0 a1 a2 a3 a4 a5 a6 a7 a8
          obtain ⟨i, g, T, hi, rfl, rfl, HG, HTT, HSO, HBx⟩ := hrel
          by_cases hi3 : i < 3
          · have hiz : (i : Int) < 3 := by omega
            have hi0 : (0 : Int) ≤ i := by omega
            have hidx := idx203 O X Y hi3
            obtain ⟨V, hV⟩ : ∃ V, V = wd3 O X Y i := ⟨_, rfl⟩
            rw [← hV] at hidx
            have HVV := Lib.hid hV
            clear hV
            have hBw2 : Below w.heap.size w wr := HB.out.trans (HBx.out.mono HB.out.size)
            have HVok : Hid (WdOk w B V) := Lib.hid (by rw [HVV.out]; exact wd3_all (p := fun z => WdOk w B z) HO.out HX.out HY.out i)
            obtain ⟨hw, hhw⟩ : ∃ hw, hw = wr.heap.size := ⟨_, rfl⟩
            obtain ⟨w2, hw2⟩ : ∃ w2, w2 = wr.alloc (.cells #[.slice V.kA V.kn V.kc, .slice V.gA V.gn V.gc, .slice V.iA V.im V.ic] 52) := ⟨_, rfl⟩
            have hB2 : Below wr.heap.size wr w2 := by rw [hw2]; exact Below.al (Below.refl _ _) _
            have HB2 := Lib.hid hB2
            have HKW : Hid (Bk w2 hw 52 #[.slice V.kA V.kn V.kc, .slice V.gA V.gn V.gc, .slice V.iA V.im V.ic]) := Lib.hid (by rw [hw2, hhw]; exact Bk.new _ _ _)
            have HAT := Lib.hid (atR_any V n (HVok.out.below ((hBw2.trans (hB2.mono hBw2.size)).mono hBw)))
            have c0 : w2.cell? ⟨hw, 0, none⟩ = some (.slice V.kA V.kn V.kc) := HKW.out.cell 0
            have c1 : w2.cell? ⟨hw, 1, none⟩ = some (.slice V.gA V.gn V.gc) := HKW.out.cell 1
            have c2 : w2.cell? ⟨hw, 2, none⟩ = some (.slice V.iA V.im V.ic) := HKW.out.cell 2
            have htl : ht < wr.heap.size := HTT.out.1.lt
            have hsl : hs < wr.heap.size := HTT.out.2.lt
            have HHW := Lib.hid hhw
            have hhts : ht < hw := by omega
            have hhss : hs < hw := by omega
            clear hBw2 hB2 hhw
            go_upto_region 13 with fail
            rw [← hw2, ← HHW.out]
            clear hw2
            go_wp2_with fail
            (with_reducible refine HAT.out.mono ?_)
            rintro e w3 ⟨hit, hb3⟩
            obtain ⟨t, hst, rfl⟩ := SlotOK.of_item hit
            have hk9 := (HTT.out.1.below2 HB2.out).below2 hb3
            have hk3 := (HTT.out.2.below2 HB2.out).below2 hb3
            obtain ⟨n0, n1, n2⟩ := nine9_at hk9 hi3
            have n3 := is3_at hk3 hi3
            have f0 := hk9.frozen (i * 3)
            have f1 := hk9.frozen (i * 3 + 1)
            have f2 := hk9.frozen (i * 3 + 2)
            have f3 := hk3.frozen i
            have hne1 : ht ≠ hs := by omega
            have hne2 : hs ≠ ht := by omega
            go_upto_region 14 with fail
            obtain ⟨w4, hw4⟩ : ∃ w4, w4 = ((((w3.setCell ⟨ht, i * 3, none⟩ (.int .i64 t.1.e)).setCell ⟨ht, i * 3 + 1, none⟩ (.int .i64 t.1.g)).setCell ⟨ht, i * 3 + 2, none⟩ (.slice t.1.A t.1.n t.1.c)).setCell ⟨hs, i, none⟩ (.bool t.2)) := ⟨_, rfl⟩
            have HT4 : Hid (Bk w4 ht 204 (nine9 (putS T i t)) ∧ Bk w4 hs 205 (is3 (putS T i t))) := Lib.hid (by
              rw [hw4]
              exact ⟨(nine9_set hk9 hi3 t).far (p := ⟨hs, i, none⟩) hne1 _, is3_set (((hk3.far (p := ⟨ht, i * 3, none⟩) hne2 _).far (p := ⟨ht, i * 3 + 1, none⟩) hne2 _).far (p := ⟨ht, i * 3 + 2, none⟩) hne2 _) hi3 t⟩)
            have hkw3 := HKW.out.below2 hb3
            have HKW4 : Hid (Bk w4 hw 52 #[.slice V.kA V.kn V.kc, .slice V.gA V.gn V.gc, .slice V.iA V.im V.ic]) := Lib.hid (by
              rw [hw4]
              exact (((hkw3.far (p := ⟨ht, i * 3, none⟩) (by show hw ≠ ht; omega) _).far (p := ⟨ht, i * 3 + 1, none⟩) (by show hw ≠ ht; omega) _).far (p := ⟨ht, i * 3 + 2, none⟩) (by show hw ≠ ht; omega) _).far (p := ⟨hs, i, none⟩) (by show hw ≠ hs; omega) _)
            have HB4 : Hid (Below wo.heap.size wo w4) := Lib.hid (by
              rw [hw4]
              exact (((((HBx.out.trans (HB2.out.mono HBx.out.size)).trans (hb3.mono (Nat.le_trans HBx.out.size HB2.out.size))).setCell (p := ⟨ht, i * 3, none⟩) hwo _).setCell (p := ⟨ht, i * 3 + 1, none⟩) hwo _).setCell (p := ⟨ht, i * 3 + 2, none⟩) hwo _).setCell (p := ⟨hs, i, none⟩) (by show wo.heap.size ≤ hs; omega) _)
            have HS4 : Hid (∀ j, j < i + 1 → SlotOK (wd3 O X Y j) n (putS T i t j)) := Lib.hid (fun j hj => by
              by_cases hji : j = i
              · subst hji
                simp only [putS, if_true]
                rw [← HVV.out]; exact hst
              · simp only [putS, if_neg hji]
                exact HSO.out j (by omega))
            obtain ⟨gv, hgv⟩ : ∃ gv, gv = V.gens.getD n 0 := ⟨_, rfl⟩
            have hg3 : g3 ga gb gd i = gv := by rw [hgv, HVV.out, HGG.out.1, HGG.out.2.1, HGG.out.2.2]; unfold g3 wd3; split <;> (try split) <;> rfl
            have hacc := g3_acc (a := ga) (b := gb) (c := gd) hi3
            rw [hg3, ← HG.out] at hacc
            have hgp : 0 ≤ g := by rw [HG.out]; exact gAcc_pos i
            have HACC := Lib.hid hacc
            have HB5 : Hid (Below w.heap.size w w4) := Lib.hid (HB.out.trans (HB4.out.mono HB.out.size))
            have hgs := HVok.out.gs.below (HB5.out.mono hBw)
            have hVl := hgs.len
            have c1 : w4.cell? ⟨hw, 1, none⟩ = some (.slice V.gA V.gn V.gc) := HKW4.out.cell 1
            clear n0 n1 n2 n3 f0 f1 f2 f3 hk9 hk3 hkw3 hst hit hb3 hg3 hacc hidx c0 c2 HAT HKW HB2 HTT HSO HBx
            rw [← hw4]
            clear hw4
            by_cases hnl : n < V.gn
            · have hnlz : (n : Int) < V.gn := by omega
              obtain ⟨b, o, hgA, hbb, d0⟩ := hgs.rd.at1 hnl (u := .int .i64 gv) (by rw [hgv]; exact intsV_get _ _ (by omega))
              rw [hgA] at c1
              clear hgs hVl hgv
              go_wp2_with fail
              all_goals
                go_roundw
                case rel => first | exact ⟨i + 1, _, putS T i t, by omega, by go_num, rfl, Lib.hid (by have h := HACC.out; omega), HT4, HS4, HB4⟩ | ((repeat apply Exists.intro); exact ⟨⟨i + 1, _, putS T i t, by omega, by go_num, rfl, Lib.hid (by have h := HACC.out; omega), HT4, HS4, HB4⟩, rfl⟩)
                case measure => simp [intOf]; omega
            · have hnlz : ¬ (n : Int) < V.gn := by omega
              have hz0 : gv = 0 := by rw [hgv]; simp [List.getD, List.getElem?_eq_none (show V.gens.length ≤ n by omega)]
              have HST : Hid (g = gAcc ga gb gd (i + 1)) := Lib.hid (by rw [HACC.out]; omega)
              clear hgs hVl hgv hz0
              go_wp2_with fail
              go_roundw
              case rel => first | exact ⟨i + 1, g, putS T i t, by omega, by go_num, rfl, HST, HT4, HS4, HB4⟩ | ((repeat apply Exists.intro); exact ⟨⟨i + 1, g, putS T i t, by omega, by go_num, rfl, HST, HT4, HS4, HB4⟩, rfl⟩)
              case measure => simp [intOf]; omega
          · obtain rfl : i = 3 := by omega
            obtain ⟨wv, rfl⟩ : ∃ x, x = wr := ⟨_, rfl⟩
            have hs0 : SlotOK O n (T 0) := HSO.out 0 (by omega)
            have hs1 : SlotOK X n (T 1) := HSO.out 1 (by omega)
            have hs2 : SlotOK Y n (T 2) := HSO.out 2 (by omega)
            have hBv : Below w.heap.size w wv := HB.out.trans (HBx.out.mono HB.out.size)
            obtain ⟨hg, hhg⟩ : ∃ hg, hg = wv.heap.size := ⟨_, rfl⟩
            obtain ⟨w1, hw1⟩ : ∃ w1, w1 = wv.alloc (.cells #[.int .i64 0, .int .i64 0, .slice none 0 0] 147) := ⟨_, rfl⟩
            have hB1 : Below wv.heap.size wv w1 := by rw [hw1]; exact Below.al (Below.refl _ _) _
            have hBw1 : Below w.heap.size w w1 := hBv.trans (hB1.mono hBv.size)
            have HKG : Hid (Bk w1 hg 147 #[.int .i64 0, .int .i64 0, .slice none 0 0]) := Lib.hid (by rw [hw1, hhg]; exact Bk.new _ _ _)
            have hk9 := HTT.out.1.below2 hB1
            have hk3 := HTT.out.2.below2 hB1
            have HAR : Hid (ArrV w1 B hs ht 0 (T 0).1 (T 0).2 (findI O.p.its n) ∧ ArrV w1 B hs ht 1 (T 1).1 (T 1).2 (findI X.p.its n) ∧ ArrV w1 B hs ht 2 (T 2).1 (T 2).2 (findI Y.p.its n)) := Lib.hid ⟨hs0.arr (HO.out.below (hBw1.mono hBw)) (by omega) hk3 hk9, hs1.arr (HX.out.below (hBw1.mono hBw)) (by omega) hk3 hk9, hs2.arr (HY.out.below (hBw1.mono hBw)) (by omega) hk3 hk9⟩
            have HK9 : Hid (Bk w1 ht 204 #[.int .i64 (T 0).1.e, .int .i64 (T 0).1.g, .slice (T 0).1.A (T 0).1.n (T 0).1.c, .int .i64 (T 1).1.e, .int .i64 (T 1).1.g, .slice (T 1).1.A (T 1).1.n (T 1).1.c, .int .i64 (T 2).1.e, .int .i64 (T 2).1.g, .slice (T 2).1.A (T 2).1.n (T 2).1.c]) := Lib.hid hk9
            have HK3 : Hid (Bk w1 hs 205 #[.bool (T 0).2, .bool (T 1).2, .bool (T 2).2]) := Lib.hid hk3
            have HSL := Lib.hid (And.intro hs0 (And.intro hs1 hs2))
            have HTv := Lib.hid (HT.out.kx (F := []) (Kx.of_below (B := B) HBx.out) (by simp) (by simp) (by simp) (by simp) (by simp) (by simp))
            have HCv := Lib.hid (HC.out.below HBx.out)
            have HAv := Lib.hid (HA.out.below2 HBx.out)
            have HBv := Lib.hid hBv
            have HB1 := Lib.hid hB1
            have htl : ht < wv.heap.size := HTT.out.1.lt
            have hsl : hs < wv.heap.size := HTT.out.2.lt
            have hwv : wo.heap.size ≤ wv.heap.size := HBx.out.size
            have HHG := Lib.hid hhg
            have hgt : ht < hg := by omega
            have hgs2 : hs < hg := by omega
            have hgv : wv.heap.size ≤ hg := by omega
            clear hs0 hs1 hs2 hBv hB1 hBw1 hk9 hk3 HTT HSO HBx hhg HT HC HA HB
            go_upto_region 19 with fail
            rw [← hw1, ← HHG.out]
            clear hw1
            generalize T 0 = t0 at *
            generalize T 1 = t1 at *
            generalize T 2 = t2 at *
            obtain ⟨I0, b0⟩ := t0
            obtain ⟨I1, b1⟩ := t1
            obtain ⟨I2, b2⟩ := t2
            dsimp only at HAR HK9 HK3 HSL ⊢
            have d0 : w1.cell? ⟨hs, 0, none⟩ = some (.bool b0) := HK3.out.cell 0
            have d1 : w1.cell? ⟨hs, 1, none⟩ = some (.bool b1) := HK3.out.cell 1
            have d2 : w1.cell? ⟨hs, 2, none⟩ = some (.bool b2) := HK3.out.cell 2
            have q0 : w1.cell? ⟨ht, 0, none⟩ = some (.int .i64 I0.e) := HK9.out.cell 0
            have q1 : w1.cell? ⟨ht, 1, none⟩ = some (.int .i64 I0.g) := HK9.out.cell 1
            have q2 : w1.cell? ⟨ht, 2, none⟩ = some (.slice I0.A I0.n I0.c) := HK9.out.cell 2
            have q3 : w1.cell? ⟨ht, 3, none⟩ = some (.int .i64 I1.e) := HK9.out.cell 3
            have q4 : w1.cell? ⟨ht, 4, none⟩ = some (.int .i64 I1.g) := HK9.out.cell 4
            have q5 : w1.cell? ⟨ht, 5, none⟩ = some (.slice I1.A I1.n I1.c) := HK9.out.cell 5
            have q6 : w1.cell? ⟨ht, 6, none⟩ = some (.int .i64 I2.e) := HK9.out.cell 6
            have q7 : w1.cell? ⟨ht, 7, none⟩ = some (.int .i64 I2.g) := HK9.out.cell 7
            have q8 : w1.cell? ⟨ht, 8, none⟩ = some (.slice I2.A I2.n I2.c) := HK9.out.cell 8
            have E1 := eq128 I0.e I0.g I1.e I1.g
            have E2 := eq128 I0.e I0.g I2.e I2.g
            obtain ⟨bb, hbb⟩ : ∃ bb, bb = decide (b0 = true ∧ b1 = true ∧ b2 = true ∧ (I0.e = I1.e ∧ I0.g = I1.g) ∧ (I0.e = I2.e ∧ I0.g = I2.g)) := ⟨_, rfl⟩
            have HBB := Lib.hid hbb
            clear hbb
            go_cut [97] from 70 to 96 (fun bv wx => bv = .bool bb ∧ wx = w1)
            case first =>
              cases b0
              · go_wp2_with fail
                go_meet
                case rel => exact ⟨by rw [HBB.out]; simp, rfl⟩
              cases b1
              · go_wp2_with fail
                go_meet
                case rel => exact ⟨by rw [HBB.out]; simp, rfl⟩
              cases b2
              · go_wp2_with fail
                go_meet
                case rel => exact ⟨by rw [HBB.out]; simp, rfl⟩
              by_cases h1 : I0.e = I1.e ∧ I0.g = I1.g
              · rw [decide_eq_true h1] at E1
                by_cases h2 : I0.e = I2.e ∧ I0.g = I2.g
                · rw [decide_eq_true h2] at E2
                  have HH := Lib.hid (And.intro h1 h2)
                  clear h1 h2
                  go_wp2_with fail
                  go_meet
                  case rel => exact ⟨by rw [HBB.out]; exact congrArg Value.bool (decide_eq_true (by first | exact ⟨rfl, rfl, rfl, HH.out.1, HH.out.2⟩ | exact ⟨trivial, trivial, trivial, HH.out.1, HH.out.2⟩)).symm, rfl⟩
                · rw [decide_eq_false h2] at E2
                  have HH := Lib.hid h2
                  clear h1 h2
                  go_wp2_with fail
                  go_meet
                  case rel => exact ⟨by rw [HBB.out]; exact congrArg Value.bool (decide_eq_false (fun h => HH.out h.2.2.2.2)).symm, rfl⟩
              · rw [decide_eq_false h1] at E1
                have HH := Lib.hid h1
                clear h1
                go_wp2_with fail
                go_meet
                case rel => exact ⟨by rw [HBB.out]; exact congrArg Value.bool (decide_eq_false (fun h => HH.out h.2.2.2.1)).symm, rfl⟩
            case rest =>
              obtain ⟨rfl, hwc⟩ := hcut
              subst wc
              clear E1 E2
              go_upto_if 97 with fail
              go_cut [9, 18] from 98 to 124 (fun cv hv18 wx => ∃ (CA' : Option Addr) (cn' cc' : Nat) (it : It) (okb : Bool), cv = .slice CA' cn' cc' ∧ hv18 = .bool okb ∧ Hid (Bk wx hg 147 #[.int .i64 it.e, .int .i64 it.g, .slice it.A it.n it.c]) ∧ Hid (ItY wx B it ∧ NoB (Value.slice GA n gc).ownBlock it.cms ∧ slotAt O.kn O.p.its X.p.its Y.p.its n = (if okb = true then some it.p else none)) ∧ Hid (CR m wx CA' cn' cc' (clsF O.kn O.p.its X.p.its Y.p.its (n + 1))) ∧ Hid (Kx B [73] wv wx) ∧ Hid (Below w.heap.size w wx))
              case first =>
                have hBw1 : B ≤ w1.heap.size := by have := HB1.out.size; omega
                have hcl := clsF_len (ks := X.p.ks) O.kn O.p.its X.p.its Y.p.its n (fun j it hf => HVX.out.fv j it hf) hkn16
                have hcn : cn ≤ 10000000 := by have h := HCv.out.len; omega
                have hwv1 : wv.heap.size ≤ w1.heap.size := HB1.out.size
                clear hcl
                by_cases hbt : bb = true
                · subst hbt
                  obtain ⟨rfl, rfl, rfl, hE1, hE2⟩ := of_decide_eq_true HBB.out.symm
                  have hf0 : I0 ∈ O.its ∧ findI O.p.its n = some I0.p := by
                    rcases HSL.out.1 with ⟨_, a, b⟩ | ⟨h, _⟩
                    · exact ⟨a, b⟩
                    · cases h
                  have hf1 : I1 ∈ X.its ∧ findI X.p.its n = some I1.p := by
                    rcases HSL.out.2.1 with ⟨_, a, b⟩ | ⟨h, _⟩
                    · exact ⟨a, b⟩
                    · cases h
                  have hf2 : I2 ∈ Y.its ∧ findI Y.p.its n = some I2.p := by
                    rcases HSL.out.2.2 with ⟨_, a, b⟩ | ⟨h, _⟩
                    · exact ⟨a, b⟩
                    · cases h
                  have v0 : VCs holdK O.p.ks (I0.cms.map Cm.p) := (HVO.out.ok I0.p (List.mem_map_of_mem hf0.1)).2.2
                  have v1 : VCs holdK X.p.ks (I1.cms.map Cm.p) := (HVX.out.ok I1.p (List.mem_map_of_mem hf1.1)).2.2
                  have v2 : VCs holdK Y.p.ks (I2.cms.map Cm.p) := (HVY.out.ok I2.p (List.mem_map_of_mem hf2.1)).2.2
                  rw [HKS.out.1] at v1
                  rw [HKS.out.2] at v2
                  have HCE := Lib.hid (cellsR_any (w := w1) (B := B) O.kn (n : Int) I0 I1 I2 O.p.ks HAR.out.1.ok HAR.out.2.1.ok HAR.out.2.2.ok v0 v1 v2 hBw1 hkn16)
                  have hcl3 := compsC_len (n : Int) O.kn (I0.cms.map Cm.p) (I1.cms.map Cm.p) (I2.cms.map Cm.p) (fun j v h => find_small v1 h)
                  have HSF := Lib.hid (slot_yesR (K := O.kn) (n := (n : Int)) (o := I0.p) (x := I1.p) (y := I2.p) (by show (I0.e, I0.g) = (I1.e, I1.g); rw [hE1.1, hE1.2]) (by show (I0.e, I0.g) = (I2.e, I2.g); rw [hE2.1, hE2.2]))
                  have HFF := Lib.hid (And.intro hf0.2 (And.intro hf1.2 hf2.2))
                  have HCL3 := Lib.hid hcl3
                  have o0 : w1.cell? ⟨w.heap.size, 0, none⟩ = some (.slice O.kA O.kn O.kc) := (HTv.out.bO.below2 HB1.out).cell 0
                  clear hf0 hf1 hf2 v0 v1 v2 hE1 hE2 hcl3 d0 d1 d2
                  go_wp2_with fail
                  (with_reducible refine HCE.out.mono ?_)
                  rintro e w3 ⟨A3, n3, c3, cl3, CA3, cn3, cc3, rfl, hit3, hcr3, hb3⟩
                  have hkg3 := HKG.out.below2 hb3
                  have g0 : w3.cell? ⟨hg, 0, none⟩ = some (.int .i64 0) := hkg3.cell 0
                  have g1 : w3.cell? ⟨hg, 1, none⟩ = some (.int .i64 0) := hkg3.cell 1
                  have g2 : w3.cell? ⟨hg, 2, none⟩ = some (.slice none 0 0) := hkg3.cell 2
                  have f0 := hkg3.frozen 0
                  have f1 := hkg3.frozen 1
                  have f2 := hkg3.frozen 2
                  obtain ⟨w4, hw4⟩ : ∃ w4, w4 = ((w3.setCell ⟨hg, 0, none⟩ (.int .i64 I1.e)).setCell ⟨hg, 1, none⟩ (.int .i64 I1.g)).setCell ⟨hg, 2, none⟩ (.slice A3 n3 c3) := ⟨_, rfl⟩
                  have hkx4 : Kx 0 [147] w3 w4 := by rw [hw4]; exact Kx.set3 (B := 0) Kx.refl hkg3 (Nat.zero_le _) (by simp) 0 1 2 _ _ _
                  have HKG4 : Hid (Bk w4 hg 147 #[.int .i64 I1.e, .int .i64 I1.g, .slice A3 n3 c3]) := Lib.hid (by rw [hw4]; simpa using ((hkg3.set_ 0 (.int .i64 I1.e)).set_ 1 (.int .i64 I1.g)).set_ 2 (.slice A3 n3 c3))
                  have HKN4 : Hid (Kx B [73] wv w4) := Lib.hid (by rw [hw4]; exact (((((Kx.of_below HB1.out).below hb3).setNew hgv 0 _).setNew hgv 1 _).setNew hgv 2 _))
                  have hBw3 : Below w.heap.size w w3 := (HBv.out.trans (HB1.out.mono HBv.out.size)).trans (hb3.mono (Nat.le_trans HBv.out.size HB1.out.size))
                  have HB4 : Hid (Below w.heap.size w w4) := Lib.hid (by rw [hw4]; exact below3R hBw3 (by have := HBv.out.size; omega) _ _ _)
                  have HC4 := Lib.hid ((((HCv.out.below HB1.out).below hb3)).kx hkx4 (by decide))
                  have HC34 := Lib.hid (hcr3.out.kx hkx4 (by decide))
                  have HIT4 : Hid (ItY w4 0 (⟨I1.e, I1.g, A3, n3, c3, cl3⟩ : It) ∧ cl3.map Cm.p = compsF O.kn (I0.cms.map Cm.p) (I1.cms.map Cm.p) (I2.cms.map Cm.p) ∧ Fr w1.heap.size 0 cl3) := Lib.hid ⟨hit3.out.1.keep hkx4 (by decide) (by decide), hit3.out.2.1, hit3.out.2.2⟩
                  have hcn3 : cn3 ≤ 1000000 := by have h := HC34.out.len; have h2 := HCL3.out; omega
                  have hw14 : m ≤ w4.heap.size := by have := HC4.out; have h2 := HKN4.out.size; have := HTv.out.bo.lt; omega
                  clear hkg3 hkx4 hit3 hcr3 hb3 hBw3 HCE o0
                  go_upto_region 22 with fail
                  rw [← hw4]
                  clear hw4 g0 g1 g2 f0 f1 f2
                  go_wp2_with
                    (at_builtin
                     go_must (refine wpList_append_rd _ rfl (.tmp 107) (.tmp 108) _ rfl m 73 iC (.agg #[.int .i64 0, .int .i64 0, .int .i64 0, .int .i64 0]) 4 32 Try.underlying55 hiC hzC0 hzC1 hzC2 rfl (by decide) (.slice CA cn cc) cn _ rfl HC4.out.own w4.heap.size CA3 cn3 cc3 _ rfl (Rd.of_own HC34.out.own) ?c1 ?c2 ?c3 ?c4 ?_)
                     case c1 => (intro u hu; obtain ⟨z, _, hz⟩ := List.mem_flatMap.1 hu; simp [clC] at hz; rcases hz with rfl | rfl | rfl | rfl <;> rfl)
                     case c2 => unfold maxLen; omega
                     case c3 => omega
                     case c4 => omega
                     intro A5 c5 w5 hown5 hg5 hat5)
                  have hkx5 : Kx m [73] w4 w5 := (Kx.refl (B := m)).grown HC4.out.own hg5 (Nat.le_refl _) (by simp)
                  have HC5 : Hid (CR m w5 A5 (cn + cn3) c5 (clsF O.kn O.p.its X.p.its Y.p.its (n + 1))) := Lib.hid (by
                    rw [clsF_step, HFF.out.1, HFF.out.2.1, HFF.out.2.2, HSF.out.2]
                    exact ⟨by rw [clCs_app]; exact hown5, by rw [List.length_append, ← HC4.out.len]; show cn + cn3 = cn + (compsC (n : Int) O.kn (I0.cms.map Cm.p) (I1.cms.map Cm.p) (I2.cms.map Cm.p)).length; rw [← HC34.out.len]⟩)
                  have HKG5 := Lib.hid (hkx5.bk HKG4.out (by decide))
                  have HKN5 : Hid (Kx B [73] wv w5) := Lib.hid (HKN4.out.trans (hkx5.mono hBm (fun _ h => h)))
                  have HB5 : Hid (Below w.heap.size w w5) := Lib.hid (HB4.out.grown hg5 HB4.out.size (fun z hz => by have := (HC4.out.own.lt z hz).1; omega))
                  have HIT5 : Hid (ItY w5 B (⟨I1.e, I1.g, A3, n3, c3, cl3⟩ : It) ∧ NoB (Value.slice GA n gc).ownBlock (⟨I1.e, I1.g, A3, n3, c3, cl3⟩ : It).cms ∧ slotAt O.kn O.p.its X.p.its Y.p.its n = (if true = true then some (⟨I1.e, I1.g, A3, n3, c3, cl3⟩ : It).p else none)) := Lib.hid ⟨(HIT4.out.1.keep (hkx5.mono (Nat.zero_le _) (fun _ h => h)) (by decide) (by decide)).more (Nat.zero_le _), NoB.of_fr HIT4.out.2.2 (fun z hz => ⟨Nat.zero_le _, by have := (HTv.out.gown.lt z hz).2; omega⟩), by
                    show slotF O.kn (findI O.p.its n) (findI X.p.its n) (findI Y.p.its n) = _
                    rw [HFF.out.1, HFF.out.2.1, HFF.out.2.2, HSF.out.1]
                    show some ((I1.e, I1.g), compsF O.kn (I0.cms.map Cm.p) (I1.cms.map Cm.p) (I2.cms.map Cm.p)) = some ((I1.e, I1.g), cl3.map Cm.p)
                    rw [HIT4.out.2.1]⟩
                  clear hown5 hg5 hat5 hkx5
                  go_wp2_with fail
                  go_meet
                  case rel => exact ⟨A5, cn + cn3, c5, ⟨I1.e, I1.g, A3, n3, c3, cl3⟩, true, rfl, rfl, HKG5, HIT5, HC5, HKN5, HB5⟩
                · have hbf : bb = false := by
                    cases bb
                    · rfl
                    · exact absurd rfl hbt
                  subst hbf
                  obtain ⟨fO, hfO⟩ : ∃ f, f = findI O.p.its n := ⟨_, rfl⟩
                  obtain ⟨fX, hfX⟩ : ∃ f, f = findI X.p.its n := ⟨_, rfl⟩
                  obtain ⟨fY, hfY⟩ : ∃ f, f = findI Y.p.its n := ⟨_, rfl⟩
                  have hnot : ¬ ∃ o x y, findI O.p.its n = some o ∧ findI X.p.its n = some x ∧ findI Y.p.its n = some y ∧ o.1 = x.1 ∧ o.1 = y.1 := by
                    rintro ⟨o, x, y, g1, g2, g3, g4, g5⟩
                    refine of_decide_eq_false HBB.out.symm ?_
                    rcases HSL.out.1 with ⟨a0, _, z0⟩ | ⟨_, z0, _⟩
                    · rcases HSL.out.2.1 with ⟨a1, _, z1⟩ | ⟨_, z1, _⟩
                      · rcases HSL.out.2.2 with ⟨a2, _, z2⟩ | ⟨_, z2, _⟩
                        · rw [g1] at z0
                          rw [g2] at z1
                          rw [g3] at z2
                          injection z0 with z0
                          injection z1 with z1
                          injection z2 with z2
                          rw [z0, z1] at g4
                          rw [z0, z2] at g5
                          have g4 : (I0.e, I0.g) = (I1.e, I1.g) := g4
                          have g5 : (I0.e, I0.g) = (I2.e, I2.g) := g5
                          injection g4 with g6 g7
                          injection g5 with g8 g9
                          exact ⟨a0, a1, a2, ⟨g6, g7⟩, g8, g9⟩
                        · rw [g3] at z2; cases z2
                      · rw [g2] at z1; cases z1
                    · rw [g1] at z0; cases z0
                  have HSN := Lib.hid (slot_notR (K := O.kn) (n := (n : Int)) hnot)
                  have hpk := chF_pick fO fX fY
                  have hch := choose112_any (.pointer (some ⟨hs, 0, none⟩)) (.pointer (some ⟨ht, 0, none⟩)) w1 (decide (fX = fY)) (decide (fO = fX)) (decide (fO = fY))
                    (fun wx hb => clo112_any 1 2 1 2 hs ht B I1 I2 b1 b2 fX fY wx rfl rfl (by omega) (by omega) (by have := hb.size; omega) (by have := hb.size; omega) (by rw [hfX]; exact HAR.out.2.1.below hb (by omega) (by omega) hBw1) (by rw [hfY]; exact HAR.out.2.2.below hb (by omega) (by omega) hBw1))
                    (fun wx hb => clo112_any 0 1 0 1 hs ht B I0 I1 b0 b1 fO fX wx rfl rfl (by omega) (by omega) (by have := hb.size; omega) (by have := hb.size; omega) (by rw [hfO]; exact HAR.out.1.below hb (by omega) (by omega) hBw1) (by rw [hfX]; exact HAR.out.2.1.below hb (by omega) (by omega) hBw1))
                    (fun wx hb => clo112_any 0 2 0 2 hs ht B I0 I2 b0 b2 fO fY wx rfl rfl (by omega) (by omega) (by have := hb.size; omega) (by have := hb.size; omega) (by rw [hfO]; exact HAR.out.1.below hb (by omega) (by omega) hBw1) (by rw [hfY]; exact HAR.out.2.2.below hb (by omega) (by omega) hBw1))
                  obtain ⟨R, hR⟩ : ∃ R, R = chF (decide (fX = fY)) (decide (fO = fX)) (decide (fO = fY)) := ⟨_, rfl⟩
                  rw [← hR] at hch hpk
                  have hR3 : R = 0 ∨ R = 1 ∨ R = 2 := by rw [hR]; exact chF_3 _ _ _
                  rw [hfO, hfX, hfY] at hpk
                  have HPK := Lib.hid hpk
                  have HCH := Lib.hid hch
                  clear hpk hch hR hnot hfO hfX hfY hbt d0 d1 d2 q0 q1 q2 q3 q4 q5 q6 q7 q8
                  go_wp2_with fail
                  (with_reducible refine HCH.out.mono ?_)
                  rintro e w3 ⟨rfl, hb3⟩
                  have HC3 := Lib.hid ((HCv.out.below HB1.out).below hb3)
                  have HK93 := Lib.hid (HK9.out.below2 hb3)
                  have HK33 := Lib.hid (HK3.out.below2 hb3)
                  have HKG3 := Lib.hid (HKG.out.below2 hb3)
                  have HKN3 : Hid (Kx B [73] wv w3) := Lib.hid ((Kx.of_below HB1.out).below hb3)
                  have HB3 : Hid (Below w.heap.size w w3) := Lib.hid ((HBv.out.trans (HB1.out.mono HBv.out.size)).trans (hb3.mono (Nat.le_trans HBv.out.size HB1.out.size)))
                  have hw13 : w1.heap.size ≤ w3.heap.size := hb3.size
                  have hmw3 : m ≤ w3.heap.size := by omega
                  clear hb3 HCH
                  rcases hR3 with rfl | rfl | rfl
                  · go_upto_region 25 with fail
                    go_cut [9, 20] from 114 to 118 (fun cv kv wx => ∃ (gA : Nat) (cA : Nat), cv = .slice (some ⟨gA, 0, none⟩) (cn + 1) cA ∧ kv = .int .i64 1 ∧ Hid (CR m wx (some ⟨gA, 0, none⟩) (cn + 1) cA (clsF O.kn O.p.its X.p.its Y.p.its n ++ [(0, (n : Int), 0, 0)]) ∧ Kx m [73] w3 wx) ∧ Hid (Below w.heap.size w wx))
                    case first =>
                      go_wp2_with
                        (at_builtin
                         go_must (refine wpList_append_one _ rfl (.tmp 114) (.tmp 117) _ rfl m 73 iC (.agg #[.int .i64 0, .int .i64 0, .int .i64 0, .int .i64 0]) 4 32 Try.underlying55 hiC hzC0 hzC1 hzC2 rfl (by decide) (.slice CA cn cc) cn _ rfl (HC3.out.own.alloc _) w3.heap.size 1 73 #[.int .i64 0, .int .i64 n, .int .i64 0, .int .i64 0] rfl (Bk.new _ _ _) rfl ?c1 (cn + 1) rfl ?c2 ?c3 ?c4 ?_)
                         case c1 => simp [Value.oneCell']
                         case c2 => unfold maxLen; omega
                         case c3 => omega
                         case c4 => (simp; omega)
                         intro gA cA wA hownA hgA hatA)
                      have hS := HC3.out.snoc hownA hgA
                      have HSS := Lib.hid hS
                      have HBNw : Hid (Below w.heap.size w wA) := Lib.hid ((HB3.out.alloc HB3.out.size _).grown hgA (by have := HB3.out.size; simp; omega) (fun z hz => by have := (HC3.out.own.lt z hz).1; omega))
                      clear hS hownA hgA hatA
                      go_wp2_with fail
                      go_meet
                      case rel => exact ⟨gA, cA, rfl, rfl, HSS, HBNw⟩
                    case rest =>
                      obtain ⟨gA, cA, rfl, rfl, HSS, HBNw⟩ := hcut
                      obtain ⟨wA, rfl⟩ : ∃ x, x = wc := ⟨_, rfl⟩
                      have HCNw : Hid (CR m wA (some ⟨gA, 0, none⟩) (cn + 1) cA (clsF O.kn O.p.its X.p.its Y.p.its (n + 1))) := Lib.hid (by
                        rw [clsF_step, HSN.out.2, HPK.out]; simpa using HSS.out.1)
                      have HK9w := Lib.hid (HSS.out.2.bk HK93.out (by decide))
                      have HK3w := Lib.hid (HSS.out.2.bk HK33.out (by decide))
                      have HKGw := Lib.hid (HSS.out.2.bk HKG3.out (by decide))
                      have HKNw : Hid (Kx B [73] wv wA) := Lib.hid (HKN3.out.trans (HSS.out.2.mono hBm (fun _ h => h)))
                      have e0 : wA.cell? ⟨ht, 3, none⟩ = some (.int .i64 I1.e) := HK9w.out.cell 3
                      have e1 : wA.cell? ⟨ht, 4, none⟩ = some (.int .i64 I1.g) := HK9w.out.cell 4
                      have e2 : wA.cell? ⟨ht, 5, none⟩ = some (.slice I1.A I1.n I1.c) := HK9w.out.cell 5
                      have e3 : wA.cell? ⟨hs, 1, none⟩ = some (.bool b1) := HK3w.out.cell 1
                      have g0 : wA.cell? ⟨hg, 0, none⟩ = some (.int .i64 0) := HKGw.out.cell 0
                      have g1 : wA.cell? ⟨hg, 1, none⟩ = some (.int .i64 0) := HKGw.out.cell 1
                      have g2 : wA.cell? ⟨hg, 2, none⟩ = some (.slice none 0 0) := HKGw.out.cell 2
                      have f0 := HKGw.out.frozen 0
                      have f1 := HKGw.out.frozen 1
                      have f2 := HKGw.out.frozen 2
                      have hn1 : hg ≠ ht := by omega
                      have hn2 : hg ≠ hs := by omega
                      have hn3 : ht ≠ hg := by omega
                      have hn4 : hs ≠ hg := by omega
                      go_wp2_with fail
                      have s1 : wA.drew.cell? ⟨ht, 3, none⟩ = some (.int .i64 I1.e) ∧ wA.drew.cell? ⟨ht, 4, none⟩ = some (.int .i64 I1.g) ∧ wA.drew.cell? ⟨ht, 5, none⟩ = some (.slice I1.A I1.n I1.c) ∧ wA.drew.cell? ⟨hs, 1, none⟩ = some (.bool b1) := ⟨e0, e1, e2, e3⟩
                      refine wp_region_E (S := fun wx => wx.cell? ⟨ht, 3, none⟩ = some (.int .i64 I1.e) ∧ wx.cell? ⟨ht, 4, none⟩ = some (.int .i64 I1.g) ∧ wx.cell? ⟨ht, 5, none⟩ = some (.slice I1.A I1.n I1.c) ∧ wx.cell? ⟨hs, 1, none⟩ = some (.bool b1)) (last := 7) (by kernel_rfl) ?_
                      refine wpAnyE_val (i := 0) (v := .int .i64 1) (d := some 119) rfl rfl (by kernel_rfl) (by kernel_rfl) (by kernel_rfl) (by kernel_rfl) (fun _ _ _ h => h) (Or.inl ⟨by rfl, fun w hS => by (obtain ⟨h0, h1, h2, h3⟩ := hS; go_simp)⟩) s1 ?_
                      (try simp only [Act.put, List.setIfInBounds_toArray, List.set_cons_zero, List.set_cons_succ])
                      refine wpAnyE_val (i := 1) (v := .pointer (some ⟨ht, 3, none⟩)) (d := some 120) rfl rfl (by kernel_rfl) (by kernel_rfl) (by kernel_rfl) (by kernel_rfl) (fun _ _ _ h => h) (Or.inl ⟨by rfl, fun w hS => by (obtain ⟨h0, h1, h2, h3⟩ := hS; go_simp)⟩) s1 ?_
                      (try simp only [Act.put, List.setIfInBounds_toArray, List.set_cons_zero, List.set_cons_succ])
                      refine wpAnyE_val (i := 2) (v := .agg #[.int .i64 I1.e, .int .i64 I1.g, .slice I1.A I1.n I1.c]) (d := some 121) rfl rfl (by kernel_rfl) (by kernel_rfl) (by kernel_rfl) (by kernel_rfl) (fun _ _ _ h => h) (Or.inl ⟨by rfl, fun w hS => by (obtain ⟨h0, h1, h2, h3⟩ := hS; go_simp)⟩) s1 ?_
                      (try simp only [Act.put, List.setIfInBounds_toArray, List.set_cons_zero, List.set_cons_succ])
                      refine wpAnyE_val (i := 3) (v := .int .i64 1) (d := some 122) rfl rfl (by kernel_rfl) (by kernel_rfl) (by kernel_rfl) (by kernel_rfl) (fun _ _ _ h => h) (Or.inl ⟨by rfl, fun w hS => by (obtain ⟨h0, h1, h2, h3⟩ := hS; go_simp)⟩) s1 ?_
                      (try simp only [Act.put, List.setIfInBounds_toArray, List.set_cons_zero, List.set_cons_succ])
                      refine wpAnyE_val (i := 4) (v := .pointer (some ⟨hs, 1, none⟩)) (d := some 123) rfl rfl (by kernel_rfl) (by kernel_rfl) (by kernel_rfl) (by kernel_rfl) (fun _ _ _ h => h) (Or.inl ⟨by rfl, fun w hS => by (obtain ⟨h0, h1, h2, h3⟩ := hS; go_simp)⟩) s1 ?_
                      (try simp only [Act.put, List.setIfInBounds_toArray, List.set_cons_zero, List.set_cons_succ])
                      refine wpAnyE_val (i := 5) (v := .bool b1) (d := some 124) rfl rfl (by kernel_rfl) (by kernel_rfl) (by kernel_rfl) (by kernel_rfl) (fun _ _ _ h => h) (Or.inl ⟨by rfl, fun w hS => by (obtain ⟨h0, h1, h2, h3⟩ := hS; go_simp)⟩) s1 ?_
                      (try simp only [Act.put, List.setIfInBounds_toArray, List.set_cons_zero, List.set_cons_succ])
                      refine wpAnyE_one (i := 6) rfl (by kernel_rfl) rfl ?_
                      go_simp
                      obtain ⟨w9, hw9⟩ : ∃ w9, w9 = (((wA.setCell ⟨hg, 0, none⟩ (.int .i64 I1.e)).setCell ⟨hg, 1, none⟩ (.int .i64 I1.g)).setCell ⟨hg, 2, none⟩ (.slice I1.A I1.n I1.c)).drew := ⟨_, rfl⟩
                      have hk99 : Bk w9 ht 204 #[.int .i64 I0.e, .int .i64 I0.g, .slice I0.A I0.n I0.c, .int .i64 I1.e, .int .i64 I1.g, .slice I1.A I1.n I1.c, .int .i64 I2.e, .int .i64 I2.g, .slice I2.A I2.n I2.c] := by rw [hw9]; exact (((HK9w.out.far (p := ⟨hg, 0, none⟩) hn3 _).far (p := ⟨hg, 1, none⟩) hn3 _).far (p := ⟨hg, 2, none⟩) hn3 _).drew
                      have hk93 : Bk w9 hs 205 #[.bool b0, .bool b1, .bool b2] := by rw [hw9]; exact (((HK3w.out.far (p := ⟨hg, 0, none⟩) hn4 _).far (p := ⟨hg, 1, none⟩) hn4 _).far (p := ⟨hg, 2, none⟩) hn4 _).drew
                      have HKG9 : Hid (Bk w9 hg 147 #[.int .i64 I1.e, .int .i64 I1.g, .slice I1.A I1.n I1.c]) := Lib.hid (by rw [hw9]; exact Bk.drew (by simpa using ((HKGw.out.set_ 0 (.int .i64 I1.e)).set_ 1 (.int .i64 I1.g)).set_ 2 (.slice I1.A I1.n I1.c)))
                      have s9 : w9.cell? ⟨ht, 3, none⟩ = some (.int .i64 I1.e) ∧ w9.cell? ⟨ht, 4, none⟩ = some (.int .i64 I1.g) ∧ w9.cell? ⟨ht, 5, none⟩ = some (.slice I1.A I1.n I1.c) ∧ w9.cell? ⟨hs, 1, none⟩ = some (.bool b1) := ⟨hk99.cell 3, hk99.cell 4, hk99.cell 5, hk93.cell 1⟩
                      have HKN9 : Hid (Kx B [73] wv w9) := Lib.hid (by rw [hw9]; exact (((HKNw.out.setNew hgv 0 _).setNew hgv 1 _).setNew hgv 2 _).drew)
                      have HB9 : Hid (Below w.heap.size w w9) := Lib.hid (by rw [hw9]; exact (below3R HBNw.out (by have := HBv.out.size; omega) _ _ _).drew)
                      have hkc : Kx 0 [147] wA w9 := by rw [hw9]; exact (Kx.set3 (B := 0) Kx.refl HKGw.out (Nat.zero_le _) (by simp) 0 1 2 _ _ _).drew
                      have HC9 := Lib.hid (HCNw.out.kx hkc (by decide))
                      have HIT9 : Hid (ItY w9 B I1 ∧ NoB (Value.slice GA n gc).ownBlock I1.cms ∧ slotAt O.kn O.p.its X.p.its Y.p.its n = (if b1 = true then some I1.p else none)) := Lib.hid ⟨.of_ok ((HSL.out.2.1.ok HX.out).below (HB9.out.mono hBw)) (Nat.le_refl _), NoB.of_fr (Fr.of_ok (h := wv.heap.size) (HSL.out.2.1.ok HX.out)) (fun z hz => by have h := HTv.out.gown.lt z hz; omega), by
                        show slotF O.kn (findI O.p.its n) (findI X.p.its n) (findI Y.p.its n) = _
                        rw [HSN.out.1, HPK.out]
                        have h := HSL.out.2.1
                        rcases h with ⟨h1, _, h2⟩ | ⟨h1, h2, _⟩
                        · dsimp only at h1 h2; rw [h1]; simp [h2]
                        · dsimp only at h1 h2; rw [h1]; simp [h2]⟩
                      rw [← hw9]
                      clear hw9 hk99 hk93 hkc s1 e0 e1 e2 e3 g0 g1 g2 f0 f1 f2
                      (try refine ⟨s9, ?_⟩)
                      (try simp only [Act.put, List.setIfInBounds_toArray, List.set_cons_zero, List.set_cons_succ])
                      refine wpAnyE_one (i := 7) rfl (by kernel_rfl) rfl ?_
                      go_simp
                      refine wpAnyE_done (by kernel_rfl) ?_ _
                      go_wp2_with fail
                      go_meet
                      case rel => exact ⟨some ⟨gA, 0, none⟩, cn + 1, cA, I1, b1, rfl, rfl, HKG9, HIT9, HC9, HKN9, HB9⟩
                  · have HCNw : Hid (CR m w3 CA cn cc (clsF O.kn O.p.its X.p.its Y.p.its (n + 1))) := Lib.hid (by
                      rw [clsF_step, HSN.out.2, HPK.out]; simpa using HC3.out)
                    have HK9w := HK93
                    have HK3w := HK33
                    have HKGw := HKG3
                    have HKNw := HKN3
                    have HBNw := HB3
                    have e0 : w3.cell? ⟨ht, 3, none⟩ = some (.int .i64 I1.e) := HK9w.out.cell 3
                    have e1 : w3.cell? ⟨ht, 4, none⟩ = some (.int .i64 I1.g) := HK9w.out.cell 4
                    have e2 : w3.cell? ⟨ht, 5, none⟩ = some (.slice I1.A I1.n I1.c) := HK9w.out.cell 5
                    have e3 : w3.cell? ⟨hs, 1, none⟩ = some (.bool b1) := HK3w.out.cell 1
                    have g0 : w3.cell? ⟨hg, 0, none⟩ = some (.int .i64 0) := HKGw.out.cell 0
                    have g1 : w3.cell? ⟨hg, 1, none⟩ = some (.int .i64 0) := HKGw.out.cell 1
                    have g2 : w3.cell? ⟨hg, 2, none⟩ = some (.slice none 0 0) := HKGw.out.cell 2
                    have f0 := HKGw.out.frozen 0
                    have f1 := HKGw.out.frozen 1
                    have f2 := HKGw.out.frozen 2
                    have hn1 : hg ≠ ht := by omega
                    have hn2 : hg ≠ hs := by omega
                    have hn3 : ht ≠ hg := by omega
                    have hn4 : hs ≠ hg := by omega
                    go_wp2_with fail
                    have s1 : w3.drew.cell? ⟨ht, 3, none⟩ = some (.int .i64 I1.e) ∧ w3.drew.cell? ⟨ht, 4, none⟩ = some (.int .i64 I1.g) ∧ w3.drew.cell? ⟨ht, 5, none⟩ = some (.slice I1.A I1.n I1.c) ∧ w3.drew.cell? ⟨hs, 1, none⟩ = some (.bool b1) := ⟨e0, e1, e2, e3⟩
                    refine wp_region_E (S := fun wx => wx.cell? ⟨ht, 3, none⟩ = some (.int .i64 I1.e) ∧ wx.cell? ⟨ht, 4, none⟩ = some (.int .i64 I1.g) ∧ wx.cell? ⟨ht, 5, none⟩ = some (.slice I1.A I1.n I1.c) ∧ wx.cell? ⟨hs, 1, none⟩ = some (.bool b1)) (last := 7) (by kernel_rfl) ?_
                    refine wpAnyE_val (i := 0) (v := .int .i64 1) (d := some 119) rfl rfl (by kernel_rfl) (by kernel_rfl) (by kernel_rfl) (by kernel_rfl) (fun _ _ _ h => h) (Or.inl ⟨by rfl, fun w hS => by (obtain ⟨h0, h1, h2, h3⟩ := hS; go_simp)⟩) s1 ?_
                    (try simp only [Act.put, List.setIfInBounds_toArray, List.set_cons_zero, List.set_cons_succ])
                    refine wpAnyE_val (i := 1) (v := .pointer (some ⟨ht, 3, none⟩)) (d := some 120) rfl rfl (by kernel_rfl) (by kernel_rfl) (by kernel_rfl) (by kernel_rfl) (fun _ _ _ h => h) (Or.inl ⟨by rfl, fun w hS => by (obtain ⟨h0, h1, h2, h3⟩ := hS; go_simp)⟩) s1 ?_
                    (try simp only [Act.put, List.setIfInBounds_toArray, List.set_cons_zero, List.set_cons_succ])
                    refine wpAnyE_val (i := 2) (v := .agg #[.int .i64 I1.e, .int .i64 I1.g, .slice I1.A I1.n I1.c]) (d := some 121) rfl rfl (by kernel_rfl) (by kernel_rfl) (by kernel_rfl) (by kernel_rfl) (fun _ _ _ h => h) (Or.inl ⟨by rfl, fun w hS => by (obtain ⟨h0, h1, h2, h3⟩ := hS; go_simp)⟩) s1 ?_
                    (try simp only [Act.put, List.setIfInBounds_toArray, List.set_cons_zero, List.set_cons_succ])
                    refine wpAnyE_val (i := 3) (v := .int .i64 1) (d := some 122) rfl rfl (by kernel_rfl) (by kernel_rfl) (by kernel_rfl) (by kernel_rfl) (fun _ _ _ h => h) (Or.inl ⟨by rfl, fun w hS => by (obtain ⟨h0, h1, h2, h3⟩ := hS; go_simp)⟩) s1 ?_
                    (try simp only [Act.put, List.setIfInBounds_toArray, List.set_cons_zero, List.set_cons_succ])
                    refine wpAnyE_val (i := 4) (v := .pointer (some ⟨hs, 1, none⟩)) (d := some 123) rfl rfl (by kernel_rfl) (by kernel_rfl) (by kernel_rfl) (by kernel_rfl) (fun _ _ _ h => h) (Or.inl ⟨by rfl, fun w hS => by (obtain ⟨h0, h1, h2, h3⟩ := hS; go_simp)⟩) s1 ?_
                    (try simp only [Act.put, List.setIfInBounds_toArray, List.set_cons_zero, List.set_cons_succ])
                    refine wpAnyE_val (i := 5) (v := .bool b1) (d := some 124) rfl rfl (by kernel_rfl) (by kernel_rfl) (by kernel_rfl) (by kernel_rfl) (fun _ _ _ h => h) (Or.inl ⟨by rfl, fun w hS => by (obtain ⟨h0, h1, h2, h3⟩ := hS; go_simp)⟩) s1 ?_
                    (try simp only [Act.put, List.setIfInBounds_toArray, List.set_cons_zero, List.set_cons_succ])
                    refine wpAnyE_one (i := 6) rfl (by kernel_rfl) rfl ?_
                    go_simp
                    obtain ⟨w9, hw9⟩ : ∃ w9, w9 = (((w3.setCell ⟨hg, 0, none⟩ (.int .i64 I1.e)).setCell ⟨hg, 1, none⟩ (.int .i64 I1.g)).setCell ⟨hg, 2, none⟩ (.slice I1.A I1.n I1.c)).drew := ⟨_, rfl⟩
                    have hk99 : Bk w9 ht 204 #[.int .i64 I0.e, .int .i64 I0.g, .slice I0.A I0.n I0.c, .int .i64 I1.e, .int .i64 I1.g, .slice I1.A I1.n I1.c, .int .i64 I2.e, .int .i64 I2.g, .slice I2.A I2.n I2.c] := by rw [hw9]; exact (((HK9w.out.far (p := ⟨hg, 0, none⟩) hn3 _).far (p := ⟨hg, 1, none⟩) hn3 _).far (p := ⟨hg, 2, none⟩) hn3 _).drew
                    have hk93 : Bk w9 hs 205 #[.bool b0, .bool b1, .bool b2] := by rw [hw9]; exact (((HK3w.out.far (p := ⟨hg, 0, none⟩) hn4 _).far (p := ⟨hg, 1, none⟩) hn4 _).far (p := ⟨hg, 2, none⟩) hn4 _).drew
                    have HKG9 : Hid (Bk w9 hg 147 #[.int .i64 I1.e, .int .i64 I1.g, .slice I1.A I1.n I1.c]) := Lib.hid (by rw [hw9]; exact Bk.drew (by simpa using ((HKGw.out.set_ 0 (.int .i64 I1.e)).set_ 1 (.int .i64 I1.g)).set_ 2 (.slice I1.A I1.n I1.c)))
                    have s9 : w9.cell? ⟨ht, 3, none⟩ = some (.int .i64 I1.e) ∧ w9.cell? ⟨ht, 4, none⟩ = some (.int .i64 I1.g) ∧ w9.cell? ⟨ht, 5, none⟩ = some (.slice I1.A I1.n I1.c) ∧ w9.cell? ⟨hs, 1, none⟩ = some (.bool b1) := ⟨hk99.cell 3, hk99.cell 4, hk99.cell 5, hk93.cell 1⟩
                    have HKN9 : Hid (Kx B [73] wv w9) := Lib.hid (by rw [hw9]; exact (((HKNw.out.setNew hgv 0 _).setNew hgv 1 _).setNew hgv 2 _).drew)
                    have HB9 : Hid (Below w.heap.size w w9) := Lib.hid (by rw [hw9]; exact (below3R HBNw.out (by have := HBv.out.size; omega) _ _ _).drew)
                    have hkc : Kx 0 [147] w3 w9 := by rw [hw9]; exact (Kx.set3 (B := 0) Kx.refl HKGw.out (Nat.zero_le _) (by simp) 0 1 2 _ _ _).drew
                    have HC9 := Lib.hid (HCNw.out.kx hkc (by decide))
                    have HIT9 : Hid (ItY w9 B I1 ∧ NoB (Value.slice GA n gc).ownBlock I1.cms ∧ slotAt O.kn O.p.its X.p.its Y.p.its n = (if b1 = true then some I1.p else none)) := Lib.hid ⟨.of_ok ((HSL.out.2.1.ok HX.out).below (HB9.out.mono hBw)) (Nat.le_refl _), NoB.of_fr (Fr.of_ok (h := wv.heap.size) (HSL.out.2.1.ok HX.out)) (fun z hz => by have h := HTv.out.gown.lt z hz; omega), by
                      show slotF O.kn (findI O.p.its n) (findI X.p.its n) (findI Y.p.its n) = _
                      rw [HSN.out.1, HPK.out]
                      have h := HSL.out.2.1
                      rcases h with ⟨h1, _, h2⟩ | ⟨h1, h2, _⟩
                      · dsimp only at h1 h2; rw [h1]; simp [h2]
                      · dsimp only at h1 h2; rw [h1]; simp [h2]⟩
                    rw [← hw9]
                    clear hw9 hk99 hk93 hkc s1 e0 e1 e2 e3 g0 g1 g2 f0 f1 f2
                    (try refine ⟨s9, ?_⟩)
                    (try simp only [Act.put, List.setIfInBounds_toArray, List.set_cons_zero, List.set_cons_succ])
                    refine wpAnyE_one (i := 7) rfl (by kernel_rfl) rfl ?_
                    go_simp
                    refine wpAnyE_done (by kernel_rfl) ?_ _
                    go_wp2_with fail
                    go_meet
                    case rel => exact ⟨CA, cn, cc, I1, b1, rfl, rfl, HKG9, HIT9, HC9, HKN9, HB9⟩
                  · have HCNw : Hid (CR m w3 CA cn cc (clsF O.kn O.p.its X.p.its Y.p.its (n + 1))) := Lib.hid (by
                      rw [clsF_step, HSN.out.2, HPK.out]; simpa using HC3.out)
                    have HK9w := HK93
                    have HK3w := HK33
                    have HKGw := HKG3
                    have HKNw := HKN3
                    have HBNw := HB3
                    have e0 : w3.cell? ⟨ht, 6, none⟩ = some (.int .i64 I2.e) := HK9w.out.cell 6
                    have e1 : w3.cell? ⟨ht, 7, none⟩ = some (.int .i64 I2.g) := HK9w.out.cell 7
                    have e2 : w3.cell? ⟨ht, 8, none⟩ = some (.slice I2.A I2.n I2.c) := HK9w.out.cell 8
                    have e3 : w3.cell? ⟨hs, 2, none⟩ = some (.bool b2) := HK3w.out.cell 2
                    have g0 : w3.cell? ⟨hg, 0, none⟩ = some (.int .i64 0) := HKGw.out.cell 0
                    have g1 : w3.cell? ⟨hg, 1, none⟩ = some (.int .i64 0) := HKGw.out.cell 1
                    have g2 : w3.cell? ⟨hg, 2, none⟩ = some (.slice none 0 0) := HKGw.out.cell 2
                    have f0 := HKGw.out.frozen 0
                    have f1 := HKGw.out.frozen 1
                    have f2 := HKGw.out.frozen 2
                    have hn1 : hg ≠ ht := by omega
                    have hn2 : hg ≠ hs := by omega
                    have hn3 : ht ≠ hg := by omega
                    have hn4 : hs ≠ hg := by omega
                    go_wp2_with fail
                    have s1 : w3.drew.cell? ⟨ht, 6, none⟩ = some (.int .i64 I2.e) ∧ w3.drew.cell? ⟨ht, 7, none⟩ = some (.int .i64 I2.g) ∧ w3.drew.cell? ⟨ht, 8, none⟩ = some (.slice I2.A I2.n I2.c) ∧ w3.drew.cell? ⟨hs, 2, none⟩ = some (.bool b2) := ⟨e0, e1, e2, e3⟩
                    refine wp_region_E (S := fun wx => wx.cell? ⟨ht, 6, none⟩ = some (.int .i64 I2.e) ∧ wx.cell? ⟨ht, 7, none⟩ = some (.int .i64 I2.g) ∧ wx.cell? ⟨ht, 8, none⟩ = some (.slice I2.A I2.n I2.c) ∧ wx.cell? ⟨hs, 2, none⟩ = some (.bool b2)) (last := 7) (by kernel_rfl) ?_
                    refine wpAnyE_val (i := 0) (v := .int .i64 2) (d := some 119) rfl rfl (by kernel_rfl) (by kernel_rfl) (by kernel_rfl) (by kernel_rfl) (fun _ _ _ h => h) (Or.inl ⟨by rfl, fun w hS => by (obtain ⟨h0, h1, h2, h3⟩ := hS; go_simp)⟩) s1 ?_
                    (try simp only [Act.put, List.setIfInBounds_toArray, List.set_cons_zero, List.set_cons_succ])
                    refine wpAnyE_val (i := 1) (v := .pointer (some ⟨ht, 6, none⟩)) (d := some 120) rfl rfl (by kernel_rfl) (by kernel_rfl) (by kernel_rfl) (by kernel_rfl) (fun _ _ _ h => h) (Or.inl ⟨by rfl, fun w hS => by (obtain ⟨h0, h1, h2, h3⟩ := hS; go_simp)⟩) s1 ?_
                    (try simp only [Act.put, List.setIfInBounds_toArray, List.set_cons_zero, List.set_cons_succ])
                    refine wpAnyE_val (i := 2) (v := .agg #[.int .i64 I2.e, .int .i64 I2.g, .slice I2.A I2.n I2.c]) (d := some 121) rfl rfl (by kernel_rfl) (by kernel_rfl) (by kernel_rfl) (by kernel_rfl) (fun _ _ _ h => h) (Or.inl ⟨by rfl, fun w hS => by (obtain ⟨h0, h1, h2, h3⟩ := hS; go_simp)⟩) s1 ?_
                    (try simp only [Act.put, List.setIfInBounds_toArray, List.set_cons_zero, List.set_cons_succ])
                    refine wpAnyE_val (i := 3) (v := .int .i64 2) (d := some 122) rfl rfl (by kernel_rfl) (by kernel_rfl) (by kernel_rfl) (by kernel_rfl) (fun _ _ _ h => h) (Or.inl ⟨by rfl, fun w hS => by (obtain ⟨h0, h1, h2, h3⟩ := hS; go_simp)⟩) s1 ?_
                    (try simp only [Act.put, List.setIfInBounds_toArray, List.set_cons_zero, List.set_cons_succ])
                    refine wpAnyE_val (i := 4) (v := .pointer (some ⟨hs, 2, none⟩)) (d := some 123) rfl rfl (by kernel_rfl) (by kernel_rfl) (by kernel_rfl) (by kernel_rfl) (fun _ _ _ h => h) (Or.inl ⟨by rfl, fun w hS => by (obtain ⟨h0, h1, h2, h3⟩ := hS; go_simp)⟩) s1 ?_
                    (try simp only [Act.put, List.setIfInBounds_toArray, List.set_cons_zero, List.set_cons_succ])
                    refine wpAnyE_val (i := 5) (v := .bool b2) (d := some 124) rfl rfl (by kernel_rfl) (by kernel_rfl) (by kernel_rfl) (by kernel_rfl) (fun _ _ _ h => h) (Or.inl ⟨by rfl, fun w hS => by (obtain ⟨h0, h1, h2, h3⟩ := hS; go_simp)⟩) s1 ?_
                    (try simp only [Act.put, List.setIfInBounds_toArray, List.set_cons_zero, List.set_cons_succ])
                    refine wpAnyE_one (i := 6) rfl (by kernel_rfl) rfl ?_
                    go_simp
                    obtain ⟨w9, hw9⟩ : ∃ w9, w9 = (((w3.setCell ⟨hg, 0, none⟩ (.int .i64 I2.e)).setCell ⟨hg, 1, none⟩ (.int .i64 I2.g)).setCell ⟨hg, 2, none⟩ (.slice I2.A I2.n I2.c)).drew := ⟨_, rfl⟩
                    have hk99 : Bk w9 ht 204 #[.int .i64 I0.e, .int .i64 I0.g, .slice I0.A I0.n I0.c, .int .i64 I1.e, .int .i64 I1.g, .slice I1.A I1.n I1.c, .int .i64 I2.e, .int .i64 I2.g, .slice I2.A I2.n I2.c] := by rw [hw9]; exact (((HK9w.out.far (p := ⟨hg, 0, none⟩) hn3 _).far (p := ⟨hg, 1, none⟩) hn3 _).far (p := ⟨hg, 2, none⟩) hn3 _).drew
                    have hk93 : Bk w9 hs 205 #[.bool b0, .bool b1, .bool b2] := by rw [hw9]; exact (((HK3w.out.far (p := ⟨hg, 0, none⟩) hn4 _).far (p := ⟨hg, 1, none⟩) hn4 _).far (p := ⟨hg, 2, none⟩) hn4 _).drew
                    have HKG9 : Hid (Bk w9 hg 147 #[.int .i64 I2.e, .int .i64 I2.g, .slice I2.A I2.n I2.c]) := Lib.hid (by rw [hw9]; exact Bk.drew (by simpa using ((HKGw.out.set_ 0 (.int .i64 I2.e)).set_ 1 (.int .i64 I2.g)).set_ 2 (.slice I2.A I2.n I2.c)))
                    have s9 : w9.cell? ⟨ht, 6, none⟩ = some (.int .i64 I2.e) ∧ w9.cell? ⟨ht, 7, none⟩ = some (.int .i64 I2.g) ∧ w9.cell? ⟨ht, 8, none⟩ = some (.slice I2.A I2.n I2.c) ∧ w9.cell? ⟨hs, 2, none⟩ = some (.bool b2) := ⟨hk99.cell 6, hk99.cell 7, hk99.cell 8, hk93.cell 2⟩
                    have HKN9 : Hid (Kx B [73] wv w9) := Lib.hid (by rw [hw9]; exact (((HKNw.out.setNew hgv 0 _).setNew hgv 1 _).setNew hgv 2 _).drew)
                    have HB9 : Hid (Below w.heap.size w w9) := Lib.hid (by rw [hw9]; exact (below3R HBNw.out (by have := HBv.out.size; omega) _ _ _).drew)
                    have hkc : Kx 0 [147] w3 w9 := by rw [hw9]; exact (Kx.set3 (B := 0) Kx.refl HKGw.out (Nat.zero_le _) (by simp) 0 1 2 _ _ _).drew
                    have HC9 := Lib.hid (HCNw.out.kx hkc (by decide))
                    have HIT9 : Hid (ItY w9 B I2 ∧ NoB (Value.slice GA n gc).ownBlock I2.cms ∧ slotAt O.kn O.p.its X.p.its Y.p.its n = (if b2 = true then some I2.p else none)) := Lib.hid ⟨.of_ok ((HSL.out.2.2.ok HY.out).below (HB9.out.mono hBw)) (Nat.le_refl _), NoB.of_fr (Fr.of_ok (h := wv.heap.size) (HSL.out.2.2.ok HY.out)) (fun z hz => by have h := HTv.out.gown.lt z hz; omega), by
                      show slotF O.kn (findI O.p.its n) (findI X.p.its n) (findI Y.p.its n) = _
                      rw [HSN.out.1, HPK.out]
                      have h := HSL.out.2.2
                      rcases h with ⟨h1, _, h2⟩ | ⟨h1, h2, _⟩
                      · dsimp only at h1 h2; rw [h1]; simp [h2]
                      · dsimp only at h1 h2; rw [h1]; simp [h2]⟩
                    rw [← hw9]
                    clear hw9 hk99 hk93 hkc s1 e0 e1 e2 e3 g0 g1 g2 f0 f1 f2
                    (try refine ⟨s9, ?_⟩)
                    (try simp only [Act.put, List.setIfInBounds_toArray, List.set_cons_zero, List.set_cons_succ])
                    refine wpAnyE_one (i := 7) rfl (by kernel_rfl) rfl ?_
                    go_simp
                    refine wpAnyE_done (by kernel_rfl) ?_ _
                    go_wp2_with fail
                    go_meet
                    case rel => exact ⟨CA, cn, cc, I2, b2, rfl, rfl, HKG9, HIT9, HC9, HKN9, HB9⟩
              case rest =>
                obtain ⟨CA', cn', cc', it, okb, rfl, rfl, HKG', HIT, HC', HK', HB'⟩ := hcut
                obtain ⟨i3', hi3', hz30, hz31, hz32⟩ := info_parts _root_.Go.Proofs.Ytnidcmhfbkdioaa.T.info3
                have HT3 := Lib.hid (HTv.out.kx HK'.out (by decide) (by decide) (by decide) (by decide) (by decide) (by decide))
                have HA3 := Lib.hid (HK'.out.bk HAv.out (by decide))
                have HC3 := HC'
                have HB3 := HB'
                have HKN : Hid (O.kn = O.p.ks.length) := Lib.hid (by rw [HO.out.ks.len]; simp [Wd.p])
                clear d0 d1 d2 q0 q1 q2 q3 q4 q5 q6 q7 q8
                cases okb
                · have HIN : Hid (its.map It.p = itsF O.kn O.p.its X.p.its Y.p.its (n + 1)) := Lib.hid (by rw [itsF_step, HIT.out.2.2, HI.out]; simp)
                  have HGF : Hid (g = genF O.p.gens X.p.gens Y.p.gens n (slotAt O.p.ks.length O.p.its X.p.its Y.p.its n)) := Lib.hid (by
                    rw [← HKN.out, HIT.out.2.2]
                    show g = max (max (max 0 (X.gens.getD n 0)) (Y.gens.getD n 0)) (O.gens.getD n 0)
                    rw [HG.out, ← HGG.out.1, ← HGG.out.2.1, ← HGG.out.2.2]
                    show max (max (max 0 ga) gb) gd = _
                    omega)
                  have g1 : wc.cell? ⟨ho, 1, none⟩ = some (.slice GA n gc) := HT3.out.bo.cell 1
                  have hwz : m ≤ wc.heap.size := by have := HT3.out.bo.lt; omega
                  go_wp2_with
                    (at_builtin
                     go_must (refine wpList_append_one _ rfl (.tmp 136) (.tmp 138) _ rfl m 3 i3' (.int .i64 0) 1 8 Try.underlying30 hi3' hz30 hz31 hz32 rfl (by decide) (.slice GA n gc) n ((gensF O.p X.p Y.p n).map (Value.int .i64)) rfl (HT3.out.gown.alloc _) wc.heap.size 1 3 #[.int .i64 g] rfl (Bk.new _ _ _) rfl ?c1 (n + 1) rfl ?c2 ?c3 ?c4 ?_)
                     case c1 => simp [Value.oneCell']
                     case c2 => unfold maxLen; omega
                     case c3 => omega
                     case c4 => (simp; omega)
                     intro g9 c9 w9 hown9 hg9 hat9
                     have hbo9 := (HT3.out.bo.alloc (.cells #[.int .i64 g] 3)).grown hg9 (fun e => own_ne HT3.out.gown HT3.out.bo (by decide) e.symm)
                     have c91 : w9.cell? ⟨ho, 1, none⟩ = some (.slice GA n gc) := hbo9.cell 1
                     have f91 : w9.frozen? ⟨ho, 1, none⟩ = false := hbo9.frozen 1)
                  have hTN := HT3.out.gen hBm hown9 hg9 (by rcases hat9 with h | h; exact .inl h; exact .inr h) hmo
                  have HTN : Hid (TI w.heap.size m ho (w9.setCell ⟨ho, 1, none⟩ (.slice (some ⟨g9, 0, none⟩) (n + 1) c9)) B O X Y ykA ykn ykc yks (some ⟨g9, 0, none⟩) (n + 1) c9 (gensF O.p X.p Y.p (n + 1)) IA q ic its) := Lib.hid (by rw [gensF_step, ← HGF.out]; exact hTN.1)
                  have HCN : Hid (CR m (w9.setCell ⟨ho, 1, none⟩ (.slice (some ⟨g9, 0, none⟩) (n + 1) c9)) CA' cn' cc' (clsF O.kn O.p.its X.p.its Y.p.its (n + 1))) := Lib.hid (HC3.out.kx hTN.2 (by decide))
                  have HAN : Hid (Bk (w9.setCell ⟨ho, 1, none⟩ (.slice (some ⟨g9, 0, none⟩) (n + 1) c9)) ha 203 #[.slice O.kA O.kn O.kc, .slice O.gA O.gn O.gc, .slice O.iA O.im O.ic, .slice X.kA X.kn X.kc, .slice X.gA X.gn X.gc, .slice X.iA X.im X.ic, .slice Y.kA Y.kn Y.kc, .slice Y.gA Y.gn Y.gc, .slice Y.iA Y.im Y.ic]) := Lib.hid (hTN.2.bk HA3.out (by decide))
                  have HBN : Hid (Below w.heap.size w (w9.setCell ⟨ho, 1, none⟩ (.slice (some ⟨g9, 0, none⟩) (n + 1) c9))) := Lib.hid (((HB3.out.alloc HB3.out.size _).grown hg9 (by have := HB3.out.size; simp; omega) (fun b hb => by have := (HT3.out.gown.lt b hb).1; omega)).setCell (p := ⟨ho, 1, none⟩) (by show w.heap.size ≤ ho; omega) _)
                  clear hTN hbo9 c91 f91 hown9 hg9 hat9 g1
                  go_wp2_with fail
                  go_roundw
                  case rel => first | exact ⟨n + 1, q, c9, ic, cn', cc', some ⟨g9, 0, none⟩, IA, CA', its, by omega, by omega, by go_num, rfl, HTN, HIN, HCN, HAN, HBN⟩ | ((repeat apply Exists.intro); (refine And.intro ?_ ?_); rotate_left; (focus (repeat' first | exact rfl | apply And.intro)); exact ⟨n + 1, q, c9, ic, cn', cc', some ⟨g9, 0, none⟩, IA, CA', its, by omega, by omega, by go_num, rfl, HTN, HIN, HCN, HAN, HBN⟩)
                  case measure => simp [intOf]; omega
                · have k0 : wc.cell? ⟨hg, 0, none⟩ = some (.int .i64 it.e) := HKG'.out.cell 0
                  have k1 : wc.cell? ⟨hg, 1, none⟩ = some (.int .i64 it.g) := HKG'.out.cell 1
                  have k2 : wc.cell? ⟨hg, 2, none⟩ = some (.slice it.A it.n it.c) := HKG'.out.cell 2
                  have e2 : wc.cell? ⟨ho, 2, none⟩ = some (.slice IA q ic) := HT3.out.bo.cell 2
                  have hwz0 : m ≤ wc.heap.size := by have := HT3.out.bo.lt; omega
                  go_wp2_with fail
                  have s1 : wc.drew.cell? ⟨hg, 0, none⟩ = some (.int .i64 it.e) ∧ wc.drew.cell? ⟨hg, 1, none⟩ = some (.int .i64 it.g) ∧ wc.drew.cell? ⟨hg, 2, none⟩ = some (.slice it.A it.n it.c) := ⟨k0, k1, k2⟩
                  have hnI : (Value.slice IA q ic).ownBlock ≠ some hg := fun e => by have h := HTv.out.iown.lt hg e; omega
                  have hgho : hg ≠ ho := by have h := HTv.out.bo.lt; omega
                  have hgho2 : ho ≠ hg := fun e => hgho e.symm
                  have HKGd := Lib.hid (HKG'.out.drew.alloc (.cells #[.int .i64 it.e, .int .i64 it.g, .slice it.A it.n it.c] 147))
                  have s2 : (wc.alloc (.cells #[.int .i64 it.e, .int .i64 it.g, .slice it.A it.n it.c] 147)).cell? ⟨hg, 0, none⟩ = some (.int .i64 it.e) ∧ (wc.alloc (.cells #[.int .i64 it.e, .int .i64 it.g, .slice it.A it.n it.c] 147)).cell? ⟨hg, 1, none⟩ = some (.int .i64 it.g) ∧ (wc.alloc (.cells #[.int .i64 it.e, .int .i64 it.g, .slice it.A it.n it.c] 147)).cell? ⟨hg, 2, none⟩ = some (.slice it.A it.n it.c) := ⟨HKGd.out.cell 0, HKGd.out.cell 1, HKGd.out.cell 2⟩
                  have e2a : (wc.alloc (.cells #[.int .i64 it.e, .int .i64 it.g, .slice it.A it.n it.c] 147)).cell? ⟨ho, 2, none⟩ = some (.slice IA q ic) := (HT3.out.bo.alloc _).cell 2
                  refine wp_region_E (S := fun wx => wx.cell? ⟨hg, 0, none⟩ = some (.int .i64 it.e) ∧ wx.cell? ⟨hg, 1, none⟩ = some (.int .i64 it.g) ∧ wx.cell? ⟨hg, 2, none⟩ = some (.slice it.A it.n it.c)) (last := 10) (by kernel_rfl) ?_
                  refine wpAnyE_val (i := 0) (v := .pointer (some ⟨ho, 2, none⟩)) (d := some 126) rfl rfl (by kernel_rfl) (by kernel_rfl) (by kernel_rfl) (by kernel_rfl) (fun _ _ _ h => h) (Or.inl ⟨by rfl, fun w hS => by (obtain ⟨h0, h1, h2⟩ := hS; go_simp)⟩) s1 ?_
                  (try simp only [Act.put, List.setIfInBounds_toArray, List.set_cons_zero, List.set_cons_succ])
                  refine wpAnyE_val (i := 2) (v := .agg #[.int .i64 it.e, .int .i64 it.g, .slice it.A it.n it.c]) (d := some 128) rfl rfl (by kernel_rfl) (by kernel_rfl) (by kernel_rfl) (by kernel_rfl) (fun _ _ _ h => h) (Or.inl ⟨by rfl, fun w hS => by (obtain ⟨h0, h1, h2⟩ := hS; go_simp)⟩) s1 ?_
                  (try simp only [Act.put, List.setIfInBounds_toArray, List.set_cons_zero, List.set_cons_succ])
                  refine wpAnyE_val (i := 5) (v := .pointer (some ⟨hg, 0, none⟩)) (d := some 131) rfl rfl (by kernel_rfl) (by kernel_rfl) (by kernel_rfl) (by kernel_rfl) (fun _ _ _ h => h) (Or.inl ⟨by rfl, fun w hS => by (obtain ⟨h0, h1, h2⟩ := hS; go_simp)⟩) s1 ?_
                  (try simp only [Act.put, List.setIfInBounds_toArray, List.set_cons_zero, List.set_cons_succ])
                  refine wpAnyE_val (i := 6) (v := .pointer (some ⟨hg, 1, none⟩)) (d := some 132) rfl rfl (by kernel_rfl) (by kernel_rfl) (by kernel_rfl) (by kernel_rfl) (fun _ _ _ h => h) (Or.inl ⟨by rfl, fun w hS => by (obtain ⟨h0, h1, h2⟩ := hS; go_simp)⟩) s1 ?_
                  (try simp only [Act.put, List.setIfInBounds_toArray, List.set_cons_zero, List.set_cons_succ])
                  refine wpAnyE_val (i := 7) (v := .int .i64 it.g) (d := some 133) rfl rfl (by kernel_rfl) (by kernel_rfl) (by kernel_rfl) (by kernel_rfl) (fun _ _ _ h => h) (Or.inl ⟨by rfl, fun w hS => by (obtain ⟨h0, h1, h2⟩ := hS; go_simp)⟩) s1 ?_
                  (try simp only [Act.put, List.setIfInBounds_toArray, List.set_cons_zero, List.set_cons_succ])
                  refine wpAnyE_two (i := 1) (j := 3) rfl rfl (by kernel_rfl) rfl rfl ?_ ?_
                  · go_simp
                    (try refine ⟨s1, ?_⟩)
                    (try simp only [Act.put, List.setIfInBounds_toArray, List.set_cons_zero, List.set_cons_succ])
                    refine wpAnyE_one (i := 3) rfl (by kernel_rfl) rfl ?_
                    go_simp
                    (try refine ⟨s2, ?_⟩)
                    (try simp only [Act.put, List.setIfInBounds_toArray, List.set_cons_zero, List.set_cons_succ])
                    refine wpAnyE_if (i := 4) rfl (by kernel_rfl) rfl ?_
                    refine step_append_one rfl (.tmp 127) (.tmp 129) 50 rfl m 147 iI (.agg #[.int .i64 0, .int .i64 0, .slice none 0 0]) 3 40 Try.underlying50 hiI hzI0 hzI1 hzI2 rfl (by decide) (.slice IA q ic) q (itCs its) rfl (HT3.out.iown.alloc _) wc.heap.size 1 147 #[.int .i64 it.e, .int .i64 it.g, .slice it.A it.n it.c] rfl (Bk.new wc _ _) rfl ?c1 (q + 1) rfl ?c2 ?c3 ?c4 ?_
                    case c1 => simp [Value.oneCell']
                    case c2 => unfold maxLen; omega
                    case c3 => omega
                    case c4 => (simp; omega)
                    intro g8 c8 w8 hown8 hg8 hat8
                    have hg8' : (wc.drew.alloc (.cells #[.int .i64 it.e, .int .i64 it.g, .slice it.A it.n it.c] 147)).grownBy w8 (Value.slice IA q ic).ownBlock := hg8
                    have HTd := Lib.hid (HT3.out.kx (F := []) (Kx.refl (B := B)).drew (by simp) (by simp) (by simp) (by simp) (by simp) (by simp))
                    have hkg8 := HKGd.out.grown hg8' (fun e => hnI e.symm)
                    have hbo8 := (HTd.out.bo.alloc (.cells #[.int .i64 it.e, .int .i64 it.g, .slice it.A it.n it.c] 147)).grown hg8' (fun e => own_ne HTd.out.iown HTd.out.bo (by decide) e.symm)
                    have c82 : w8.cell? ⟨ho, 2, none⟩ = some (.slice IA q ic) := hbo8.cell 2
                    have f82 : w8.frozen? ⟨ho, 2, none⟩ = false := hbo8.frozen 2
                    have s8 : w8.cell? ⟨hg, 0, none⟩ = some (.int .i64 it.e) ∧ w8.cell? ⟨hg, 1, none⟩ = some (.int .i64 it.g) ∧ w8.cell? ⟨hg, 2, none⟩ = some (.slice it.A it.n it.c) := ⟨hkg8.cell 0, hkg8.cell 1, hkg8.cell 2⟩
                    refine ⟨fun _ => s8, ?_⟩
                    (try simp only [Act.put, List.setIfInBounds_toArray])
                    refine wpAnyE_val (i := 8) (v := .pointer (some ⟨ho, 2, none⟩)) (d := some 134) rfl rfl (by kernel_rfl) (by kernel_rfl) (by kernel_rfl) (by kernel_rfl) (fun _ _ _ h => h) (Or.inl ⟨by rfl, fun w hS => by (obtain ⟨h0, h1, h2⟩ := hS; go_simp)⟩) s8 ?_
                    (try simp only [Act.put])
                    refine wpAnyE_one (i := 9) rfl (by kernel_rfl) rfl ?_
                    go_simp
                    obtain ⟨w10, hw10⟩ : ∃ w10, w10 = w8.setCell ⟨ho, 2, none⟩ (.slice (some ⟨g8, 0, none⟩) (q + 1) c8) := ⟨_, rfl⟩
                    have s10 : w10.cell? ⟨hg, 0, none⟩ = some (.int .i64 it.e) ∧ w10.cell? ⟨hg, 1, none⟩ = some (.int .i64 it.g) ∧ w10.cell? ⟨hg, 2, none⟩ = some (.slice it.A it.n it.c) := by
                      have h := hkg8.far (p := ⟨ho, 2, none⟩) hgho (.slice (some ⟨g8, 0, none⟩) (q + 1) c8)
                      rw [hw10]; exact ⟨h.cell 0, h.cell 1, h.cell 2⟩
                    have hTI := HTd.out.item (it := it) (HIT.out.1.keep (F := []) (Kx.refl (B := B)).drew (by simp) (by simp)) HIT.out.2.1 hBm hown8 hg8' hmo
                    rw [← hw10] at hTI
                    have HB10 : Hid (Below w.heap.size w w10) := Lib.hid (by rw [hw10]; exact ((HB3.out.drew.alloc HB3.out.size _).grown hg8' (by have := HB3.out.size; show w.heap.size ≤ (wc.drew.alloc _).heap.size; simp [World.alloc]; have h3 : wc.drew.heap.size = wc.heap.size := rfl; omega) (fun b hb => by have := (HT3.out.iown.lt b hb).1; omega)).setCell (p := ⟨ho, 2, none⟩) (by show w.heap.size ≤ ho; omega) _)
                    have hk10 : Kx B [147, 52] wc w10 := ((Kx.refl (B := B)).drew).trans hTI.2
                    have HC10 := Lib.hid (HC3.out.kx hk10 (by decide))
                    have HA10 := Lib.hid (hk10.bk HA3.out (by decide))
                    have HT10 := Lib.hid hTI.1
                    try rw [← hw10]
                    clear hw10 hTI hk10 hbo8 hkg8 c82 f82 hown8 hg8 hg8' hat8 HTd s8 s2 s1 e2 e2a k0 k1 k2 HT3 HC3 HA3 HB3
                    (try refine ⟨s10, ?_⟩)
                    (try simp only [Act.put, List.setIfInBounds_toArray, List.set_cons_zero, List.set_cons_succ])
                    refine wpAnyE_one (i := 10) rfl (by kernel_rfl) rfl ?_
                    go_simp
                    refine wpAnyE_done (by kernel_rfl) ?_ _
                    have HT3 := HT10
                    have HC3 := HC10
                    have HA3 := HA10
                    have HB3 := HB10
                    have HIN : Hid ((its ++ [it]).map It.p = itsF O.kn O.p.its X.p.its Y.p.its (n + 1)) := Lib.hid (by rw [itsF_step, HIT.out.2.2, List.map_append, HI.out]; rfl)
                    have HGF : Hid (it.g = genF O.p.gens X.p.gens Y.p.gens n (slotAt O.p.ks.length O.p.its X.p.its Y.p.its n)) := Lib.hid (by rw [← HKN.out, HIT.out.2.2]; rfl)
                    clear HT10 HC10 HA10 HB10 s10
                    have g1 : w10.cell? ⟨ho, 1, none⟩ = some (.slice GA n gc) := HT3.out.bo.cell 1
                    have hwz : m ≤ w10.heap.size := by have := HT3.out.bo.lt; omega
                    go_wp2_with
                      (at_builtin
                       go_must (refine wpList_append_one _ rfl (.tmp 136) (.tmp 138) _ rfl m 3 i3' (.int .i64 0) 1 8 Try.underlying30 hi3' hz30 hz31 hz32 rfl (by decide) (.slice GA n gc) n ((gensF O.p X.p Y.p n).map (Value.int .i64)) rfl (HT3.out.gown.alloc _) w10.heap.size 1 3 #[.int .i64 it.g] rfl (Bk.new _ _ _) rfl ?c1 (n + 1) rfl ?c2 ?c3 ?c4 ?_)
                       case c1 => simp [Value.oneCell']
                       case c2 => unfold maxLen; omega
                       case c3 => omega
                       case c4 => (simp; omega)
                       intro g9 c9 w9 hown9 hg9 hat9
                       have hbo9 := (HT3.out.bo.alloc (.cells #[.int .i64 it.g] 3)).grown hg9 (fun e => own_ne HT3.out.gown HT3.out.bo (by decide) e.symm)
                       have c91 : w9.cell? ⟨ho, 1, none⟩ = some (.slice GA n gc) := hbo9.cell 1
                       have f91 : w9.frozen? ⟨ho, 1, none⟩ = false := hbo9.frozen 1)
                    have hTN := HT3.out.gen hBm hown9 hg9 (by rcases hat9 with h | h; exact .inl h; exact .inr h) hmo
                    have HTN : Hid (TI w.heap.size m ho (w9.setCell ⟨ho, 1, none⟩ (.slice (some ⟨g9, 0, none⟩) (n + 1) c9)) B O X Y ykA ykn ykc yks (some ⟨g9, 0, none⟩) (n + 1) c9 (gensF O.p X.p Y.p (n + 1)) (some ⟨g8, 0, none⟩) (q + 1) c8 (its ++ [it])) := Lib.hid (by rw [gensF_step, ← HGF.out]; exact hTN.1)
                    have HCN : Hid (CR m (w9.setCell ⟨ho, 1, none⟩ (.slice (some ⟨g9, 0, none⟩) (n + 1) c9)) CA' cn' cc' (clsF O.kn O.p.its X.p.its Y.p.its (n + 1))) := Lib.hid (HC3.out.kx hTN.2 (by decide))
                    have HAN : Hid (Bk (w9.setCell ⟨ho, 1, none⟩ (.slice (some ⟨g9, 0, none⟩) (n + 1) c9)) ha 203 #[.slice O.kA O.kn O.kc, .slice O.gA O.gn O.gc, .slice O.iA O.im O.ic, .slice X.kA X.kn X.kc, .slice X.gA X.gn X.gc, .slice X.iA X.im X.ic, .slice Y.kA Y.kn Y.kc, .slice Y.gA Y.gn Y.gc, .slice Y.iA Y.im Y.ic]) := Lib.hid (hTN.2.bk HA3.out (by decide))
                    have HBN : Hid (Below w.heap.size w (w9.setCell ⟨ho, 1, none⟩ (.slice (some ⟨g9, 0, none⟩) (n + 1) c9))) := Lib.hid (((HB3.out.alloc HB3.out.size _).grown hg9 (by have := HB3.out.size; simp; omega) (fun b hb => by have := (HT3.out.gown.lt b hb).1; omega)).setCell (p := ⟨ho, 1, none⟩) (by show w.heap.size ≤ ho; omega) _)
                    clear hTN hbo9 c91 f91 hown9 hg9 hat9 g1
                    go_wp2_with fail
                    go_roundw
                    case rel => first | exact ⟨n + 1, q + 1, c9, c8, cn', cc', some ⟨g9, 0, none⟩, some ⟨g8, 0, none⟩, CA', (its ++ [it]), by omega, by omega, by go_num, rfl, HTN, HIN, HCN, HAN, HBN⟩ | ((repeat apply Exists.intro); (refine And.intro ?_ ?_); rotate_left; (focus (repeat' first | exact rfl | apply And.intro)); exact ⟨n + 1, q + 1, c9, c8, cn', cc', some ⟨g9, 0, none⟩, some ⟨g8, 0, none⟩, CA', (its ++ [it]), by omega, by omega, by go_num, rfl, HTN, HIN, HCN, HAN, HBN⟩)
                    case measure => simp [intOf]; omega
                  · go_simp
                    (try refine ⟨s2, ?_⟩)
                    (try simp only [Act.put, List.setIfInBounds_toArray, List.set_cons_zero, List.set_cons_succ])
                    refine wpAnyE_one (i := 1) rfl (by kernel_rfl) rfl ?_
                    go_simp
                    (try refine ⟨s2, ?_⟩)
                    (try simp only [Act.put, List.setIfInBounds_toArray, List.set_cons_zero, List.set_cons_succ])
                    refine wpAnyE_if (i := 4) rfl (by kernel_rfl) rfl ?_
                    refine step_append_one rfl (.tmp 127) (.tmp 129) 50 rfl m 147 iI (.agg #[.int .i64 0, .int .i64 0, .slice none 0 0]) 3 40 Try.underlying50 hiI hzI0 hzI1 hzI2 rfl (by decide) (.slice IA q ic) q (itCs its) rfl (HT3.out.iown.alloc _) wc.heap.size 1 147 #[.int .i64 it.e, .int .i64 it.g, .slice it.A it.n it.c] rfl (Bk.new wc _ _) rfl ?c1 (q + 1) rfl ?c2 ?c3 ?c4 ?_
                    case c1 => simp [Value.oneCell']
                    case c2 => unfold maxLen; omega
                    case c3 => omega
                    case c4 => (simp; omega)
                    intro g8 c8 w8 hown8 hg8 hat8
                    have hg8' : (wc.drew.alloc (.cells #[.int .i64 it.e, .int .i64 it.g, .slice it.A it.n it.c] 147)).grownBy w8 (Value.slice IA q ic).ownBlock := hg8
                    have HTd := Lib.hid (HT3.out.kx (F := []) (Kx.refl (B := B)).drew (by simp) (by simp) (by simp) (by simp) (by simp) (by simp))
                    have hkg8 := HKGd.out.grown hg8' (fun e => hnI e.symm)
                    have hbo8 := (HTd.out.bo.alloc (.cells #[.int .i64 it.e, .int .i64 it.g, .slice it.A it.n it.c] 147)).grown hg8' (fun e => own_ne HTd.out.iown HTd.out.bo (by decide) e.symm)
                    have c82 : w8.cell? ⟨ho, 2, none⟩ = some (.slice IA q ic) := hbo8.cell 2
                    have f82 : w8.frozen? ⟨ho, 2, none⟩ = false := hbo8.frozen 2
                    have s8 : w8.cell? ⟨hg, 0, none⟩ = some (.int .i64 it.e) ∧ w8.cell? ⟨hg, 1, none⟩ = some (.int .i64 it.g) ∧ w8.cell? ⟨hg, 2, none⟩ = some (.slice it.A it.n it.c) := ⟨hkg8.cell 0, hkg8.cell 1, hkg8.cell 2⟩
                    refine ⟨fun _ => s8, ?_⟩
                    (try simp only [Act.put, List.setIfInBounds_toArray])
                    refine wpAnyE_val (i := 8) (v := .pointer (some ⟨ho, 2, none⟩)) (d := some 134) rfl rfl (by kernel_rfl) (by kernel_rfl) (by kernel_rfl) (by kernel_rfl) (fun _ _ _ h => h) (Or.inl ⟨by rfl, fun w hS => by (obtain ⟨h0, h1, h2⟩ := hS; go_simp)⟩) s8 ?_
                    (try simp only [Act.put])
                    refine wpAnyE_one (i := 9) rfl (by kernel_rfl) rfl ?_
                    go_simp
                    obtain ⟨w10, hw10⟩ : ∃ w10, w10 = w8.setCell ⟨ho, 2, none⟩ (.slice (some ⟨g8, 0, none⟩) (q + 1) c8) := ⟨_, rfl⟩
                    have s10 : w10.cell? ⟨hg, 0, none⟩ = some (.int .i64 it.e) ∧ w10.cell? ⟨hg, 1, none⟩ = some (.int .i64 it.g) ∧ w10.cell? ⟨hg, 2, none⟩ = some (.slice it.A it.n it.c) := by
                      have h := hkg8.far (p := ⟨ho, 2, none⟩) hgho (.slice (some ⟨g8, 0, none⟩) (q + 1) c8)
                      rw [hw10]; exact ⟨h.cell 0, h.cell 1, h.cell 2⟩
                    have hTI := HTd.out.item (it := it) (HIT.out.1.keep (F := []) (Kx.refl (B := B)).drew (by simp) (by simp)) HIT.out.2.1 hBm hown8 hg8' hmo
                    rw [← hw10] at hTI
                    have HB10 : Hid (Below w.heap.size w w10) := Lib.hid (by rw [hw10]; exact ((HB3.out.drew.alloc HB3.out.size _).grown hg8' (by have := HB3.out.size; show w.heap.size ≤ (wc.drew.alloc _).heap.size; simp [World.alloc]; have h3 : wc.drew.heap.size = wc.heap.size := rfl; omega) (fun b hb => by have := (HT3.out.iown.lt b hb).1; omega)).setCell (p := ⟨ho, 2, none⟩) (by show w.heap.size ≤ ho; omega) _)
                    have hk10 : Kx B [147, 52] wc w10 := ((Kx.refl (B := B)).drew).trans hTI.2
                    have HC10 := Lib.hid (HC3.out.kx hk10 (by decide))
                    have HA10 := Lib.hid (hk10.bk HA3.out (by decide))
                    have HT10 := Lib.hid hTI.1
                    try rw [← hw10]
                    clear hw10 hTI hk10 hbo8 hkg8 c82 f82 hown8 hg8 hg8' hat8 HTd s8 s2 s1 e2 e2a k0 k1 k2 HT3 HC3 HA3 HB3
                    (try refine ⟨s10, ?_⟩)
                    (try simp only [Act.put, List.setIfInBounds_toArray, List.set_cons_zero, List.set_cons_succ])
                    refine wpAnyE_one (i := 10) rfl (by kernel_rfl) rfl ?_
                    go_simp
                    refine wpAnyE_done (by kernel_rfl) ?_ _
                    have HT3 := HT10
                    have HC3 := HC10
                    have HA3 := HA10
                    have HB3 := HB10
                    have HIN : Hid ((its ++ [it]).map It.p = itsF O.kn O.p.its X.p.its Y.p.its (n + 1)) := Lib.hid (by rw [itsF_step, HIT.out.2.2, List.map_append, HI.out]; rfl)
                    have HGF : Hid (it.g = genF O.p.gens X.p.gens Y.p.gens n (slotAt O.p.ks.length O.p.its X.p.its Y.p.its n)) := Lib.hid (by rw [← HKN.out, HIT.out.2.2]; rfl)
                    clear HT10 HC10 HA10 HB10 s10
                    have g1 : w10.cell? ⟨ho, 1, none⟩ = some (.slice GA n gc) := HT3.out.bo.cell 1
                    have hwz : m ≤ w10.heap.size := by have := HT3.out.bo.lt; omega
                    go_wp2_with
                      (at_builtin
                       go_must (refine wpList_append_one _ rfl (.tmp 136) (.tmp 138) _ rfl m 3 i3' (.int .i64 0) 1 8 Try.underlying30 hi3' hz30 hz31 hz32 rfl (by decide) (.slice GA n gc) n ((gensF O.p X.p Y.p n).map (Value.int .i64)) rfl (HT3.out.gown.alloc _) w10.heap.size 1 3 #[.int .i64 it.g] rfl (Bk.new _ _ _) rfl ?c1 (n + 1) rfl ?c2 ?c3 ?c4 ?_)
                       case c1 => simp [Value.oneCell']
                       case c2 => unfold maxLen; omega
                       case c3 => omega
                       case c4 => (simp; omega)
                       intro g9 c9 w9 hown9 hg9 hat9
                       have hbo9 := (HT3.out.bo.alloc (.cells #[.int .i64 it.g] 3)).grown hg9 (fun e => own_ne HT3.out.gown HT3.out.bo (by decide) e.symm)
                       have c91 : w9.cell? ⟨ho, 1, none⟩ = some (.slice GA n gc) := hbo9.cell 1
                       have f91 : w9.frozen? ⟨ho, 1, none⟩ = false := hbo9.frozen 1)
                    have hTN := HT3.out.gen hBm hown9 hg9 (by rcases hat9 with h | h; exact .inl h; exact .inr h) hmo
                    have HTN : Hid (TI w.heap.size m ho (w9.setCell ⟨ho, 1, none⟩ (.slice (some ⟨g9, 0, none⟩) (n + 1) c9)) B O X Y ykA ykn ykc yks (some ⟨g9, 0, none⟩) (n + 1) c9 (gensF O.p X.p Y.p (n + 1)) (some ⟨g8, 0, none⟩) (q + 1) c8 (its ++ [it])) := Lib.hid (by rw [gensF_step, ← HGF.out]; exact hTN.1)
                    have HCN : Hid (CR m (w9.setCell ⟨ho, 1, none⟩ (.slice (some ⟨g9, 0, none⟩) (n + 1) c9)) CA' cn' cc' (clsF O.kn O.p.its X.p.its Y.p.its (n + 1))) := Lib.hid (HC3.out.kx hTN.2 (by decide))
                    have HAN : Hid (Bk (w9.setCell ⟨ho, 1, none⟩ (.slice (some ⟨g9, 0, none⟩) (n + 1) c9)) ha 203 #[.slice O.kA O.kn O.kc, .slice O.gA O.gn O.gc, .slice O.iA O.im O.ic, .slice X.kA X.kn X.kc, .slice X.gA X.gn X.gc, .slice X.iA X.im X.ic, .slice Y.kA Y.kn Y.kc, .slice Y.gA Y.gn Y.gc, .slice Y.iA Y.im Y.ic]) := Lib.hid (hTN.2.bk HA3.out (by decide))
                    have HBN : Hid (Below w.heap.size w (w9.setCell ⟨ho, 1, none⟩ (.slice (some ⟨g9, 0, none⟩) (n + 1) c9))) := Lib.hid (((HB3.out.alloc HB3.out.size _).grown hg9 (by have := HB3.out.size; simp; omega) (fun b hb => by have := (HT3.out.gown.lt b hb).1; omega)).setCell (p := ⟨ho, 1, none⟩) (by show w.heap.size ≤ ho; omega) _)
                    clear hTN hbo9 c91 f91 hown9 hg9 hat9 g1
                    go_wp2_with fail
                    go_roundw
                    case rel => first | exact ⟨n + 1, q + 1, c9, c8, cn', cc', some ⟨g9, 0, none⟩, some ⟨g8, 0, none⟩, CA', (its ++ [it]), by omega, by omega, by go_num, rfl, HTN, HIN, HCN, HAN, HBN⟩ | ((repeat apply Exists.intro); (refine And.intro ?_ ?_); rotate_left; (focus (repeat' first | exact rfl | apply And.intro)); exact ⟨n + 1, q + 1, c9, c8, cn', cc', some ⟨g9, 0, none⟩, some ⟨g8, 0, none⟩, CA', (its ++ [it]), by omega, by omega, by go_num, rfl, HTN, HIN, HCN, HAN, HBN⟩)
                    case measure => simp [intOf]; omega
      · obtain rfl : N = n := by omega
        have hO0 : wo.cell? ⟨ho, 0, none⟩ = some (.slice ykA ykn ykc) := HT.out.bo.cell 0
        have hO1 : wo.cell? ⟨ho, 1, none⟩ = some (.slice GA N gc) := HT.out.bo.cell 1
        have hO2 : wo.cell? ⟨ho, 2, none⟩ = some (.slice IA q ic) := HT.out.bo.cell 2
        have hok : WdY wo B ⟨ykA, ykn, ykc, yks, GA, N, gc, gensF O.p X.p Y.p N, IA, q, ic, its⟩ := by
          have hm1 := merge_ok holdK_mix HVO.out HVX.out HVY.out HKS.out.1 HKS.out.2
          refine ⟨HT.out.ks.more (Nat.zero_le _), (GsY.own HT.out.gown (fun z hz => ?_)).more (Nat.zero_le _), IsY.of_own HT.out.iown HT.out.len HT.out.iok⟩
          have h := hm1.gens z (by show z ∈ gensF O.p X.p Y.p (slotsN O.p X.p Y.p); rw [← HN.out]; exact hz)
          exact wf_i64 (by omega) (by omega)
        have hpp : (⟨ykA, ykn, ykc, yks, GA, N, gc, gensF O.p X.p Y.p N, IA, q, ic, its⟩ : Wd).p = mergeF O.p X.p Y.p := by
          show (⟨yks.map Kd.p, gensF O.p X.p Y.p N, its.map It.p⟩ : Wv Kp2) = ⟨O.p.ks, gensF O.p X.p Y.p (slotsN O.p X.p Y.p), itsF O.p.ks.length O.p.its X.p.its Y.p.its (slotsN O.p X.p Y.p)⟩
          rw [HKP.out, HI.out, ← HN.out, HO.out.ks.len]
          simp [Wd.p]
        have hcp := copyR_any hok.ok_ (by rw [hpp]; exact small_of HC0.out (merge_ok holdK_mix HVO.out HVX.out HVY.out HKS.out.1 HKS.out.2))
        rw [hpp] at hcp
        have HCPY := Lib.hid hcp
        clear hok hpp hcp
        go_wp2_with fail
        (with_reducible refine HCPY.out.mono ?_)
        rintro e w3 ⟨Z, rfl, hZ, hb3⟩
        have hR := HT.out.bR.below2 hb3
        have n0 : w3.cell? ⟨w.heap.size + 3, 0, none⟩ = some (.slice none 0 0) := hR.cell 0
        have n1 : w3.cell? ⟨w.heap.size + 3, 1, none⟩ = some (.slice none 0 0) := hR.cell 1
        have n2 : w3.cell? ⟨w.heap.size + 3, 2, none⟩ = some (.slice none 0 0) := hR.cell 2
        have m0 := hR.frozen 0
        have m1 := hR.frozen 1
        have m2 := hR.frozen 2
        have hq3 : Kx 0 [52] w3 (((w3.setCell ⟨w.heap.size + 3, 0, none⟩ (.slice Z.kA Z.kn Z.kc)).setCell ⟨w.heap.size + 3, 1, none⟩ (.slice Z.gA Z.gn Z.gc)).setCell ⟨w.heap.size + 3, 2, none⟩ (.slice Z.iA Z.im Z.ic)) := Kx.set3 (B := 0) Kx.refl hR (Nat.zero_le _) (by simp) 0 1 2 _ _ _
        have HZ := Lib.hid (hZ.out.1.keep hq3 (by decide) (by decide) (by decide) (by decide) (by decide))
        have HZP := Lib.hid hZ.out.2.1
        have HCZ := Lib.hid ((HC.out.below hb3).kx hq3 (by decide))
        have HBZ : Hid (Below w.heap.size w w3) := Lib.hid (HB.out.trans (hb3.mono HB.out.size))
        clear hR hq3 hZ hb3 HCPY hO0 hO1 hO2
        go_wp2_with fail
        (try simp only [Exit.inBlock, Exit.then])
        have hcap := own_cap2 HCZ.out.own
        refine bodyPost_ret (v := .tuple #[.agg #[.slice Z.kA Z.kn Z.kc, .slice Z.gA Z.gn Z.gc, .slice Z.iA Z.im Z.ic], .slice CA cn cc]) ?_ rfl ⟨Z, CA, cn, cc, rfl, Lib.hid ⟨HZ.out, HZP.out⟩, Lib.hid ⟨?_, hcap.1, hcap.2, ?_⟩, below3R HBZ.out (by omega) _ _ _⟩
        · rw [results_cell_tmp rfl]
          go_simp
        · show cn = (clsF O.p.ks.length O.p.its X.p.its Y.p.its (slotsN O.p X.p Y.p)).length
          rw [← HN.out, show O.p.ks.length = O.kn by rw [HO.out.ks.len]; simp [Wd.p]]
          exact HCZ.out.len
        · show RdY _ 0 73 4 CA cn (clCs (clsF O.p.ks.length O.p.its X.p.its Y.p.its (slotsN O.p X.p Y.p)))
          rw [← HN.out, show O.p.ks.length = O.kn by rw [HO.out.ks.len]; simp [Wd.p]]
          exact RdY.of_own HCZ.out.own
end Go.Proofs.Ytnidcmhfbkdioaa
