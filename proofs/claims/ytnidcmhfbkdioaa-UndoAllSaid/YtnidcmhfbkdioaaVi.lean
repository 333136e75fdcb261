/-
  The contracts of undo.New, Now, turn; a history in memory; what an append to its rows of steps gives. Conditions: worlds that can be read, of bounded sizes; numbers that fit.
-/
import Derived.Test.YtnidcmhfbkdioaaVg
import Derived.Test.YtnidcmhfbkdioaaMl
namespace Go.Proofs.Ytnidcmhfbkdioaa
open Go.RowKit
set_option maxRecDepth 100000

/-! ### Vh -/
theorem Szs.small {p : Wv Kp2} (h : Szs p) : SmallV p :=
  ⟨by have := h.ks; omega, fun k hk => by have := (h.kd k hk).2.1; omega, by have := h.gs; omega, by have := h.its; omega, fun t ht => by have := (h.it t ht).1; omega, fun t ht c hc => by have := (h.it t ht).2 c hc; omega⟩
/-- Where block hb is a history: its world, and what else it holds. -/
def HsB (w : World) (hb : Nat) (x : Wd) (R1 R2 : Value) : Prop := Bk w hb 263 #[.slice x.kA x.kn x.kc, .slice x.gA x.gn x.gc, .slice x.iA x.im x.ic, R1, R2]

set_option maxHeartbeats 4000000 in
theorem new82_any (x : Wd) (B : Nat) (w : World) (hx : WdOk w B x) (hB : B ≤ w.heap.size) (gx : Szs x.p) (hc : wcheckF x.p = 0) :
    Calls Try.prog 82 #[.agg #[.slice x.kA x.kn x.kc, .slice x.gA x.gn x.gc, .slice x.iA x.im x.ic]] w fun e w' => ∃ (hb : Nat) (y : Wd), e = .returned (.tuple #[.pointer (some ⟨hb, 0, none⟩), .int .i64 0]) ∧ Hid (HsB w' hb y (.slice none 0 0) (.slice none 0 0) ∧ WdY w' 0 y ∧ y.p = x.p ∧ w.heap.size ≤ hb) ∧ Below w.heap.size w w' := by
  have HC := Lib.hid (fun (wz : World) (hb : Below w.heap.size w wz) => wcheck_any (hx.below (hb.mono hB)))
  have HCP := Lib.hid (fun (wz : World) (hb : Below w.heap.size w wz) => wcopy_any (hx.below (hb.mono hB)) gx.small)
  obtain ⟨p1, hp1⟩ : ∃ p, p = x.p := ⟨_, rfl⟩
  rw [← hp1] at HC HCP hc ⊢
  obtain ⟨kA, kn, kc, ks, gA, gn, gc, gens, iA, im, ic, its⟩ := x
  unfold Wd.v at HC HCP
  dsimp only at HC HCP ⊢
  rw [hc] at HC
  clear hx gx hp1 hc
  obtain ⟨W0, hW0⟩ : ∃ W0, W0 = w.alloc (.cells #[.slice kA kn kc, .slice gA gn gc, .slice iA im ic] 52) := ⟨_, rfl⟩
  have hb0 : Below w.heap.size w W0 := by rw [hW0]; exact Below.al (Below.refl _ _) _
  have HX : Hid (Bk W0 w.heap.size 52 #[.slice kA kn kc, .slice gA gn gc, .slice iA im ic]) := Lib.hid (by rw [hW0]; exact Bk.new _ _ _)
  have a0 : W0.cell? ⟨w.heap.size, 0, none⟩ = some (.slice kA kn kc) := HX.out.cell 0
  have a1 : W0.cell? ⟨w.heap.size, 1, none⟩ = some (.slice gA gn gc) := HX.out.cell 1
  have a2 : W0.cell? ⟨w.heap.size, 2, none⟩ = some (.slice iA im ic) := HX.out.cell 2
  have H1 := Lib.hid (HC.out W0 hb0)
  have HB0 := Lib.hid hb0
  clear HC hb0
  go_enter Try.func82, Try.ntmps82
  go_upto_region 1 with fail
  rw [← hW0]
  clear hW0
  go_wp2_with fail
  with_reducible refine (H1.out).mono ?_
  clear H1
  rintro e w1 ⟨rfl, hb1⟩
  have hbw1 : Below w.heap.size w w1 := HB0.out.trans (hb1.mono HB0.out.size)
  have hx1 := HX.out.below hb1 HX.out.lt
  have d0 : w1.cell? ⟨w.heap.size, 0, none⟩ = some (.slice kA kn kc) := hx1.cell 0
  have d1 : w1.cell? ⟨w.heap.size, 1, none⟩ = some (.slice gA gn gc) := hx1.cell 1
  have d2 : w1.cell? ⟨w.heap.size, 2, none⟩ = some (.slice iA im ic) := hx1.cell 2
  have H2 := Lib.hid (HCP.out w1 hbw1)
  have HBW1 := Lib.hid hbw1
  clear hb1 hbw1 hx1 HCP
  go_wp2_with fail
  with_reducible refine (H2.out).mono ?_
  clear H2
  rintro e w2 ⟨y, rfl, hy, hyp, hb2⟩
  obtain ⟨kA, kn, kc, ks, gA, gn, gc, gens, iA, im, ic, its⟩ := y
  (try unfold Wd.v)
  dsimp only
  have hz1 : w.heap.size ≤ w1.heap.size := HBW1.out.size
  have hz2 : w1.heap.size ≤ w2.heap.size := hb2.size
  have HY := Lib.hid (And.intro hy hyp)
  have HB2 := Lib.hid hb2
  clear hy hyp hb2
  go_wp2_with fail
  go_ret2
  exact ⟨w2.heap.size, ⟨kA, kn, kc, ks, gA, gn, gc, gens, iA, im, ic, its⟩, rfl, Lib.hid ⟨Bk.new w2 263 _, HY.out.1.keep ((Kx.refl (B := 0) (F := [])).alloc _) (by simp) (by simp) (by simp) (by simp) (by simp), HY.out.2, by omega⟩, (HBW1.out.trans (HB2.out.mono hz1)).alloc (by omega) _⟩

set_option maxHeartbeats 4000000 in
theorem now_any (hb : Nat) (x : Wd) (R1 R2 : Value) (w : World) (hk : HsB w hb x R1 R2) (hx : WdY w 0 x) (gx : Szs x.p) :
    Calls Try.prog 86 #[.pointer (some ⟨hb, 0, none⟩)] w fun e w' => ∃ y : Wd, e = .returned (.agg #[.slice y.kA y.kn y.kc, .slice y.gA y.gn y.gc, .slice y.iA y.im y.ic]) ∧ Hid (WdY w' 0 y ∧ y.p = x.p) ∧ Below w.heap.size w w' := by
  have HCP := Lib.hid (fun (wz : World) (hb : Below w.heap.size w wz) => wcopy_any (hx.ok_.below hb) gx.small)
  obtain ⟨p1, hp1⟩ : ∃ p, p = x.p := ⟨_, rfl⟩
  rw [← hp1] at HCP ⊢
  obtain ⟨kA, kn, kc, ks, gA, gn, gc, gens, iA, im, ic, its⟩ := x
  unfold Wd.v at HCP
  dsimp only at HCP ⊢
  have HK := Lib.hid hk
  clear hx gx hp1 hk
  obtain ⟨W0, hW0⟩ : ∃ W0, W0 = w.alloc (.cells #[.slice none 0 0, .slice none 0 0, .slice none 0 0] 52) := ⟨_, rfl⟩
  have hb0 : Below w.heap.size w W0 := by rw [hW0]; exact Below.al (Below.refl _ _) _
  have HX : Hid (Bk W0 w.heap.size 52 #[.slice none 0 0, .slice none 0 0, .slice none 0 0]) := Lib.hid (by rw [hW0]; exact Bk.new _ _ _)
  have hk0 : HsB W0 hb ⟨kA, kn, kc, ks, gA, gn, gc, gens, iA, im, ic, its⟩ R1 R2 := Bk.below HK.out hb0 (Bk.lt HK.out)
  have a0 : W0.cell? ⟨hb, 0, none⟩ = some (.slice kA kn kc) := Bk.cell hk0 0
  have a1 : W0.cell? ⟨hb, 1, none⟩ = some (.slice gA gn gc) := Bk.cell hk0 1
  have a2 : W0.cell? ⟨hb, 2, none⟩ = some (.slice iA im ic) := Bk.cell hk0 2
  have H1 := Lib.hid (HCP.out W0 hb0)
  have HB0 := Lib.hid hb0
  clear HCP hb0 hk0
  go_enter Try.func86, Try.ntmps86
  go_upto_region 1 with fail
  rw [← hW0]
  clear hW0
  go_wp2_with fail
  with_reducible refine (H1.out).mono ?_
  clear H1
  rintro e w2 ⟨y, rfl, hy, hyp, hb2⟩
  obtain ⟨kA, kn, kc, ks, gA, gn, gc, gens, iA, im, ic, its⟩ := y
  (try unfold Wd.v)
  dsimp only
  have hx2 := HX.out.below hb2 HX.out.lt
  have m0 : w2.cell? ⟨w.heap.size, 0, none⟩ = some (.slice none 0 0) := hx2.cell 0
  have m1 : w2.cell? ⟨w.heap.size, 1, none⟩ = some (.slice none 0 0) := hx2.cell 1
  have m2 : w2.cell? ⟨w.heap.size, 2, none⟩ = some (.slice none 0 0) := hx2.cell 2
  have f0 := hx2.frozen 0
  have f1 := hx2.frozen 1
  have f2 := hx2.frozen 2
  have hz1 : w.heap.size ≤ W0.heap.size := HB0.out.size
  have HX2 := Lib.hid hx2
  have HY := Lib.hid (And.intro hy hyp)
  have HB2 := Lib.hid hb2
  clear hy hyp hb2 hx2
  go_wp2_with fail
  (try simp only [Exit.inBlock, Exit.then])
  have z1 := HX2.out.set_ 0 (Value.slice kA kn kc)
  have z2 := z1.set_ 1 (Value.slice gA gn gc)
  have hK0 := (((Kx.refl (B := 0) (F := [52])).set HX2.out (Nat.zero_le _) (by simp) 0 (Value.slice kA kn kc)).set z1 (Nat.zero_le _) (by simp) 1 (Value.slice gA gn gc)).set z2 (Nat.zero_le _) (by simp) 2 (Value.slice iA im ic)
  have hq : ∀ i : Nat, w.heap.size ≤ (⟨w.heap.size, i, none⟩ : Addr).block := fun i => Nat.le_refl _
  refine bodyPost_ret (v := .agg #[.slice kA kn kc, .slice gA gn gc, .slice iA im ic]) ?_ rfl ⟨⟨kA, kn, kc, ks, gA, gn, gc, gens, iA, im, ic, its⟩, rfl, Lib.hid ⟨HY.out.1.keep hK0 (by decide) (by decide) (by decide) (by decide) (by decide), HY.out.2⟩, (((HB0.out.trans (HB2.out.mono hz1)).setCell (hq 0) _).setCell (hq 1) _).setCell (hq 2) _⟩
  rw [results_c1 rfl]
  go_simp

set_option maxHeartbeats 4000000 in
theorem turn_any (hb : Nat) (x : Wd) (q : Wv Kp2) (R1 R2 : Value) (D : Option Addr) (dn dc : Nat) (w : World) (hk : HsB w hb x R1 R2) (hx : WdY w 0 x) (gx : GoodW x.p) (gq : GoodW q) (hok : encOk (FW x.p) (FW q)) (hd : RdY w 0 5 1 D dn (bytesV (encD x.p q))) (hdn : dn = (encD x.p q).length) :
    Calls Try.prog 160 #[.pointer (some ⟨hb, 0, none⟩), .slice D dn dc] w fun e w' => ∃ y : Wd, e = .returned (.int .i64 0) ∧ Hid (HsB w' hb y R1 R2 ∧ WdY w' 0 y ∧ y.p = q) ∧ w.grownBy w' (some hb) := by
  have HA := Lib.hid (apply_any x q D dn dc w.heap.size w hx.ok_ (Nat.le_refl _) gx gq hok hd.rd hdn)
  obtain ⟨kA, kn, kc, ks, gA, gn, gc, gens, iA, im, ic, its⟩ := x
  dsimp only at HA
  have a0 : w.cell? ⟨hb, 0, none⟩ = some (.slice kA kn kc) := Bk.cell hk 0
  have a1 : w.cell? ⟨hb, 1, none⟩ = some (.slice gA gn gc) := Bk.cell hk 1
  have a2 : w.cell? ⟨hb, 2, none⟩ = some (.slice iA im ic) := Bk.cell hk 2
  have HK := Lib.hid hk
  clear hx gx gq hok hd hdn hk
  go_enter Try.func160, Try.ntmps160
  go_wp2_with fail
  with_reducible refine (HA.out).mono ?_
  clear HA
  rintro e w2 ⟨y, rfl, HY, hb2⟩
  obtain ⟨kA', kn', kc', ks', gA', gn', gc', gens', iA', im', ic', its'⟩ := y
  dsimp only
  have hbl : hb < w.heap.size := Bk.lt HK.out
  have hk2 : HsB w2 hb ⟨kA, kn, kc, ks, gA, gn, gc, gens, iA, im, ic, its⟩ R1 R2 := Bk.below HK.out hb2 hbl
  obtain ⟨W3, hW3⟩ : ∃ W3, W3 = w2.alloc (.cells #[.int .i64 0, .slice kA' kn' kc', .slice gA' gn' gc', .slice iA' im' ic', .slice none 0 0, .slice none 0 0, .slice none 0 0] 80) := ⟨_, rfl⟩
  have hb3 : Below w.heap.size w W3 := by rw [hW3]; exact hb2.alloc hb2.size _
  have hk3 : Bk W3 hb 263 #[.slice kA kn kc, .slice gA gn gc, .slice iA im ic, R1, R2] := by rw [hW3]; exact Bk.alloc hk2 _
  have hx3 : Bk W3 w2.heap.size 80 #[.int .i64 0, .slice kA' kn' kc', .slice gA' gn' gc', .slice iA' im' ic', .slice none 0 0, .slice none 0 0, .slice none 0 0] := by rw [hW3]; exact Bk.new _ _ _
  have b1 : W3.cell? ⟨w2.heap.size, 1, none⟩ = some (.slice kA' kn' kc') := hx3.cell 1
  have b2 : W3.cell? ⟨w2.heap.size, 2, none⟩ = some (.slice gA' gn' gc') := hx3.cell 2
  have b3 : W3.cell? ⟨w2.heap.size, 3, none⟩ = some (.slice iA' im' ic') := hx3.cell 3
  have m0 : W3.cell? ⟨hb, 0, none⟩ = some (.slice kA kn kc) := hk3.cell 0
  have m1 : W3.cell? ⟨hb, 1, none⟩ = some (.slice gA gn gc) := hk3.cell 1
  have m2 : W3.cell? ⟨hb, 2, none⟩ = some (.slice iA im ic) := hk3.cell 2
  have f0 := hk3.frozen 0
  have f1 := hk3.frozen 1
  have f2 := hk3.frozen 2
  have HY3 : Hid (WdY W3 0 ⟨kA', kn', kc', ks', gA', gn', gc', gens', iA', im', ic', its'⟩ ∧ (⟨kA', kn', kc', ks', gA', gn', gc', gens', iA', im', ic', its'⟩ : Wd).p = q) := Lib.hid ⟨by rw [hW3]; exact HY.out.1.keep ((Kx.refl (B := 0) (F := [])).alloc _) (by simp) (by simp) (by simp) (by simp) (by simp), HY.out.2⟩
  have HK3 := Lib.hid hk3
  have HB3 := Lib.hid hb3
  have HW3 := Lib.hid hW3
  clear hk2 hk3 hx3 hb3 hb2 HY hW3
  go_upto_region 2 with fail
  rw [← HW3.out]
  clear HW3
  go_wp2_with fail
  go_ret
  have z1 := HK3.out.set_ 0 (Value.slice kA' kn' kc')
  have z2 := z1.set_ 1 (Value.slice gA' gn' gc')
  have hK0 := (((Kx.refl (B := 0) (F := [263])).set HK3.out (Nat.zero_le _) (by simp) 0 (Value.slice kA' kn' kc')).set z1 (Nat.zero_le _) (by simp) 1 (Value.slice gA' gn' gc')).set z2 (Nat.zero_le _) (by simp) 2 (Value.slice iA' im' ic')
  exact ⟨⟨kA', kn', kc', ks', gA', gn', gc', gens', iA', im', ic', its'⟩, rfl, Lib.hid ⟨z2.set_ 2 _, HY3.out.1.keep hK0 (by decide) (by decide) (by decide) (by decide) (by decide), HY3.out.2⟩, Gb.set_ (Gb.set_ (Gb.set_ ⟨HB3.out.os, HB3.out.tape, HB3.out.output, HB3.out.size, fun i hi _ => HB3.out.block i hi⟩ 0 _) 1 _) 2 _⟩

/-! ### Vi -/
theorem T.infoSt : (Try.prog.info? 265).map (fun i => (i.zero, i.size, i.bytes)) = some (some (.agg #[.string ByteArray.empty, .slice none 0 0, .slice none 0 0]), 3, 64) := by kernel_rfl
def stCs (l : List StM) : List Value := l.flatMap StM.cs
theorem stCs_app (a b : List StM) : stCs (a ++ b) = stCs a ++ stCs b := by simp [stCs]
theorem stCs_one (s : StM) : stCs [s] = [.string s.nm, .slice s.oA s.on s.oc, .slice s.bA s.bn s.bc] := by simp [stCs, StM.cs]
theorem stCs_length (l : List StM) : (stCs l).length = l.length * 3 := by
  induction l with
  | nil => rfl
  | cons a l ih => rw [show stCs (a :: l) = StM.cs a ++ stCs l by simp [stCs], List.length_append, ih, List.length_cons]; simp [StM.cs]; omega
/-- A row of steps: full, or the history's own. -/
structure RowM (w : World) (base : Nat) (A : Option Addr) (n c : Nat) (D : List StM) : Prop where
  rd : RdY w 0 265 3 A n (stCs D)
  len : n = D.length
  cap : n ≤ c
  cap2 : c ≤ 9223372036854775807
  mode : (c = n ∧ (A = none → n = 0)) ∨ w.ownsRow base 265 3 (.slice A n c) n (stCs D)
  sts : ∀ s ∈ D, StY w s
  ty : ∀ q, (Value.slice A n c).ownBlock = some q → base ≤ q ∧ ∃ cs, Bk w q 265 cs
structure HistY (w : World) (hb base : Nat) (x : Wd) (dA : Option Addr) (dn dc : Nat) (D : List StM) (gA : Option Addr) (gn gc : Nat) (G : List StM) : Prop where
  bk : HsB w hb x (.slice dA dn dc) (.slice gA gn gc)
  x : WdY w 0 x
  d : RowM w base dA dn dc D
  g : RowM w base gA gn gc G
  ne : ∀ q, (Value.slice dA dn dc).ownBlock = some q → (Value.slice gA gn gc).ownBlock ≠ some q
  lo : base ≤ hb
/-- What a history's methods leave of the rest of the world. -/
structure Kz (B : Nat) (w w' : World) : Prop where
  os : w'.os = w.os
  tape : w'.tape = w.tape
  output : w'.output = w.output
  kx : Kx B [263, 265] w w'
theorem Kz.refl {B : Nat} {w : World} : Kz B w w := ⟨rfl, rfl, rfl, Kx.refl⟩
theorem Kz.trans {B : Nat} {a b c : World} (h : Kz B a b) (k : Kz B b c) : Kz B a c := ⟨k.os.trans h.os, k.tape.trans h.tape, k.output.trans h.output, h.kx.trans k.kx⟩
theorem Kz.below {B : Nat} {a b c : World} (h : Kz B a b) (k : Below b.heap.size b c) : Kz B a c := ⟨k.os.trans h.os, k.tape.trans h.tape, k.output.trans h.output, h.kx.below k⟩
theorem Kz.toBelow {B : Nat} {a b : World} (h : Kz B a b) (hB : B ≤ a.heap.size) : Below B a b := ⟨h.os, h.tape, h.output, h.kx.size, fun k hk => h.kx.low k hk (by omega)⟩
theorem Kx.gb {B hb : Nat} {t : TypeId} {cs : Array Value} {w w' : World} (h : w.grownBy w' (some hb)) (hk : Bk w hb t cs) (hB : B ≤ hb) : Kx B [t] w w' :=
  ⟨h.size, fun b h1 h2 => h.block b h2 (fun e => by injection e with e; omega), fun b t' cs' h1 h2 => h1.grown h (fun e => by
    injection e with e
    subst e
    exact Bk.ne_ h1 hk (fun e => h2 (by rw [e]; simp)) rfl)⟩
theorem StY.keep {w w' : World} {F : List TypeId} {s : StM} (h : StY w s) (hq : Kx 0 F w w') (h5 : (5 : TypeId) ∉ F) : StY w' s := ⟨h.o.keep hq h5, h.on, h.b.keep hq h5, h.bn⟩
theorem RowM.keep {w w' : World} {base n c : Nat} {A : Option Addr} {D : List StM} {F : List TypeId} (h : RowM w base A n c D) (hq : Kx 0 F w w') (h5 : (5 : TypeId) ∉ F) (h265 : (265 : TypeId) ∉ F) : RowM w' base A n c D :=
  ⟨h.rd.keep hq h265, h.len, h.cap, h.cap2, h.mode.imp id fun h => hq.own h h265, fun s hs => (h.sts s hs).keep hq h5, fun q hb => by obtain ⟨h0, cs, h1⟩ := h.ty q hb; exact ⟨h0, cs, hq.bk h1 h265⟩⟩
/-- Where another row has grown, this one stands. -/
theorem RowM.far {w w' : World} {base n c : Nat} {A : Option Addr} {D : List StM} {r : Option Nat} (h : RowM w base A n c D) (hg : w.grownBy w' r) (hne : ∀ q, (Value.slice A n c).ownBlock = some q → r ≠ some q) (hs : ∀ s ∈ D, StY w' s) : RowM w' base A n c D := by
  refine ⟨⟨h.rd.1, fun hn => ?_⟩, h.len, h.cap, h.cap2, h.mode.imp id fun h1 => own_keepB h1 fun q hq => hg.block q (h1.lt q hq).2 (fun e => hne q hq e.symm), hs, fun q hq => by obtain ⟨h0, cs, h1⟩ := h.ty q hq; exact ⟨h0, cs, h1.grown hg (fun e => hne q hq e.symm)⟩⟩
  obtain ⟨b, o, h1, h2, h3, h4⟩ := h.rd.2 hn
  subst h1
  have hb := hg.block b h2 (fun e => hne b rfl e.symm)
  exact ⟨b, o, rfl, Nat.lt_of_lt_of_le h2 hg.size, h3.imp id fun ⟨cs, h5⟩ => ⟨cs, hb.trans h5⟩, fun j u hu => (World.cell?_of_block (w := w) hb).trans (h4 j u hu)⟩
theorem RowM.own {w : World} {base n c : Nat} {A : Option Addr} {D : List StM} (h : w.ownsRow base 265 3 (.slice A n c) n (stCs D)) (hn : n = D.length) (hs : ∀ s ∈ D, StY w s) : RowM w base A n c D :=
  ⟨RdY.of_own h, hn, (own_cap2 h).1, (own_cap2 h).2, .inr h, hs, fun _ hq => ⟨(h.lt _ hq).1, own_ty h hq⟩⟩
/-- All but the last step, full. -/
theorem RowM.cut {w : World} {base n c : Nat} {A : Option Addr} {D : List StM} {s : StM} (h : RowM w base A (n + 1) c (D ++ [s])) : RowM w base A n n D := by
  have hl : n = D.length := by have := h.len; rw [List.length_append] at this; simpa using this
  refine ⟨⟨by rw [stCs_length, hl], fun hn => ?_⟩, hl, Nat.le_refl _, by have := h.cap; have := h.cap2; omega, .inl ⟨rfl, fun e => ?_⟩, fun x hx => h.sts x (List.mem_append_left _ hx), fun q hq => h.ty q (by cases A <;> exact hq)⟩
  · obtain ⟨b, o, h1, h2, h3, h4⟩ := h.rd.2 (by omega)
    refine ⟨b, o, h1, h2, h3, fun j u hu => h4 j u ?_⟩
    have hj := (List.getElem?_eq_some_iff.1 hu).1
    rw [stCs_app, List.getElem?_append_left hj]; exact hu
  · obtain ⟨b, o, h1, _⟩ := h.rd.2 (by omega)
    rw [e] at h1; cases h1
/-- The last step's cells. -/
theorem RowM.last {w : World} {base n c : Nat} {A : Option Addr} {D : List StM} {s : StM} (h : RowM w base A (n + 1) c (D ++ [s])) : ∃ b o, A = some ⟨b, o, none⟩ ∧ b < w.heap.size ∧ w.cell? ⟨b, o + n * 3, none⟩ = some (.string s.nm) ∧ w.cell? ⟨b, o + n * 3 + 1, none⟩ = some (.slice s.oA s.on s.oc) ∧ w.cell? ⟨b, o + n * 3 + 2, none⟩ = some (.slice s.bA s.bn s.bc) := by
  have hl : n = D.length := by have := h.len; rw [List.length_append] at this; simpa using this
  obtain ⟨b, o, h1, h2, h3, h4⟩ := h.rd.2 (by omega)
  have hg : ∀ j u, [Value.string s.nm, .slice s.oA s.on s.oc, .slice s.bA s.bn s.bc][j]? = some u → (stCs (D ++ [s]))[n * 3 + j]? = some u := fun j u hu => by
    rw [stCs_app, List.getElem?_append_right (by rw [stCs_length, hl]; omega), stCs_length, stCs_one, hl, Nat.add_sub_cancel_left]; exact hu
  exact ⟨b, o, h1, h2, h4 (n * 3) _ (hg 0 _ rfl), by rw [Nat.add_assoc]; exact h4 (n * 3 + 1) _ (hg 1 _ rfl), by rw [Nat.add_assoc]; exact h4 (n * 3 + 2) _ (hg 2 _ rfl)⟩

theorem opw_append_st {o : Oper} {a : Act} {w : World} {K : Act → World → Prop} {Q : Exit → Act → World → Prop} {base n c b c1 : Nat} {A : Option Addr} {D : List StM} {cs : Array Value} (hgd : o.guard = none) (s x : Operand)
    (ho : o.op = .call { callee := .builtin .append, args := #[s, x], argTypes := #[261, 261] }) (hr : RowM w base A n c D) (hs : a.eval s = .slice A n c) (hx : a.eval x = .slice (some ⟨b, 0, none⟩) 1 c1) (hb : Bk w b 265 cs) (hcs : cs.size = 3) (h1 : ∀ u ∈ cs.toList, u.oneCell' = true)
    (hsm : n < 1000000) (hbase : base ≤ w.heap.size)
    (h : ∀ g' c' w', w'.ownsRow base 265 3 (.slice (some ⟨g', 0, none⟩) (n + 1) c') (n + 1) (stCs D ++ cs.toList) → w.grownBy w' (Value.slice A n c).ownBlock → ((Value.slice A n c).ownBlock = some g' ∨ w.heap.size ≤ g') → K (a.put o.dst (.slice (some ⟨g', 0, none⟩) (n + 1) c')) w') : Oper.wp Try.prog o a w K Q := by
  obtain ⟨iS, hi, hz0, hz1, hz2⟩ := info_parts T.infoSt
  have own_case : w.ownsRow base 265 3 (.slice A n c) n (stCs D) → Oper.wp Try.prog o a w K Q := fun hown => by
    have := step_append_one (ops := #[]) (E := False) (Q := Q) hgd s x 261 ho base 265 iS (.agg #[.string ByteArray.empty, .slice none 0 0, .slice none 0 0]) 3 64 Try.underlying261 hi hz0 hz1 hz2 rfl (by decide) (.slice A n c) n (stCs D) hs hown b c1 265 cs hx hb hcs h1 (n + 1) rfl (by unfold maxLen; omega) (by omega) hbase
      (fun g' c' w' h2 h3 h4 => h g' c' w' h2 h3 (h4.imp id fun e => by rw [e]; exact Nat.le_refl _))
    rwa [if_pos (by simp [Region.wanted, hgd])] at this
  rcases hr.mode with ⟨hc, hA⟩ | hown
  · subst hc
    cases A with
    | none =>
      have h0 := hA rfl
      subst h0
      refine own_case ?_
      have : stCs D = [] := List.eq_nil_of_length_eq_zero (by rw [stCs_length, ← hr.len])
      rw [this]
      exact World.ownsRow_nil _ _ _ _
    | some ad =>
      have hcell : ∀ j u, (stCs D)[j]? = some u → w.cell? (ad.add j) = some u := fun j u hu => by
        have hj := (List.getElem?_eq_some_iff.1 hu).1
        rw [stCs_length] at hj
        obtain ⟨b', o', e, _, _, h4⟩ := hr.rd.2 (by have := hr.len; omega)
        injection e with e
        rw [e, Addr.add_lit]
        exact h4 j u hu
      obtain ⟨v', w', hrun, r1, r2⟩ := run_append_arg_grows (P := Try.prog) w 261 o.type 265 iS (.agg #[.string ByteArray.empty, .slice none 0 0, .slice none 0 0]) 3 64 Try.underlying261 hi hz0 hz1 hz2 rfl (by decide) ad c c (stCs D) (by rw [stCs_length, ← hr.len]) hcell ⟨b, 0, none⟩ 1 c1 cs.toList (by simp [hcs]) (fun j u hu => by rw [Addr.add_lit, Nat.zero_add]; exact (hb.cell j).trans (by simpa using hu)) (by omega) (by unfold maxLen; omega) (by omega)
      obtain ⟨g', c', hv, hlo, _⟩ := r1.form (by omega)
      subst hv
      have r2' : w.grownBy w' (Value.slice (some ad) c c).ownBlock := ⟨r2.os, r2.tape, r2.output, r2.size, fun i hi _ => r2.block i hi (by simp)⟩
      have := h g' c' w' (own_mono r1 hbase) r2' (.inr hlo)
      unfold Oper.wp
      simp [execOp, ho, resolve, invoke, builtin, hs, hx, hrun, Result.andThen]
      exact this
  · exact own_case hown
end Go.Proofs.Ytnidcmhfbkdioaa
