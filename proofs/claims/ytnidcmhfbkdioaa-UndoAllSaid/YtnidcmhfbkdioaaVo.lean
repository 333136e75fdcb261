/-
  The walk of UndoAll. Conditions: lists of numbers that can be read.
-/
import Derived.Test.YtnidcmhfbkdioaaVn
import Derived.Test.YtnidcmhfbkdioaaNh
namespace Go.Proofs.Ytnidcmhfbkdioaa
open Go.RowKit
set_option maxRecDepth 100000

theorem T.infoWd : (Try.prog.info? 52).map (fun i => (i.zero, i.size, i.bytes)) = some (some (.agg #[.slice none 0 0, .slice none 0 0, .slice none 0 0]), 3, 72) := by kernel_rfl
def Wd.cs (x : Wd) : List Value := [.slice x.kA x.kn x.kc, .slice x.gA x.gn x.gc, .slice x.iA x.im x.ic]
def wdCs (l : List Wd) : List Value := l.flatMap Wd.cs
theorem wdCs_length (l : List Wd) : (wdCs l).length = l.length * 3 := by
  induction l with
  | nil => rfl
  | cons a l ih => rw [show wdCs (a :: l) = Wd.cs a ++ wdCs l by simp [wdCs], List.length_append, ih, List.length_cons]; simp [Wd.cs]; omega
theorem wdCs_get (l : List Wd) (k j : Nat) (f : Wd) (h : l[k]? = some f) (hj : j < 3) : (wdCs l)[k * 3 + j]? = (Wd.cs f)[j]? := by
  induction l generalizing k with
  | nil => simp at h
  | cons a l ih =>
    have e : wdCs (a :: l) = Wd.cs a ++ wdCs l := by simp [wdCs]
    rw [e]
    cases k with
    | zero =>
      have ea : a = f := by simpa using h
      subst ea
      rw [List.getElem?_append_left (by simp [Wd.cs]; omega)]
      congr 1; omega
    | succ k =>
      rw [List.getElem?_append_right (by simp [Wd.cs]; omega)]
      rw [show (k + 1) * 3 + j - (Wd.cs a).length = k * 3 + j by simp [Wd.cs]; omega]
      exact ih k (by simpa using h)
theorem Rd.wd {w : World} {B n : Nat} {A : Option Addr} {l : List Wd} {k : Nat} {f : Wd} (h : Rd w B 3 A n (wdCs l)) (hk : k < n) (hf : l[k]? = some f) :
    ∃ b o, A = some ⟨b, o, none⟩ ∧ b < B ∧ w.cell? ⟨b, o + k * 3, none⟩ = some (.slice f.kA f.kn f.kc) ∧ w.cell? ⟨b, o + k * 3 + 1, none⟩ = some (.slice f.gA f.gn f.gc) ∧ w.cell? ⟨b, o + k * 3 + 2, none⟩ = some (.slice f.iA f.im f.ic) := by
  obtain ⟨b, o, e, hb, hc⟩ := h.2 (by omega)
  exact ⟨b, o, e, hb, hc (k * 3) _ ((wdCs_get l k 0 f hf (by omega)).trans rfl), by rw [Nat.add_assoc]; exact hc (k * 3 + 1) _ ((wdCs_get l k 1 f hf (by omega)).trans rfl), by rw [Nat.add_assoc]; exact hc (k * 3 + 2) _ ((wdCs_get l k 2 f hf (by omega)).trans rfl)⟩
def stepN : ByteArray := ⟨#[115, 116, 101, 112]⟩
/-- The worlds that were made, in a row of their own. -/
structure UI (w : World) (base : Nat) (AA : Option Addr) (m ac : Nat) (Ws : List Wd) (K0 : List Kp2) (i : Nat) : Prop where
  own : w.ownsRow base 52 3 (.slice AA m ac) m (wdCs Ws)
  len : m = Ws.length
  y : ∀ x ∈ Ws, WdY w 0 x ∧ VW holdK x.p ∧ x.p.ks = K0 ∧ x.p.gens.length ≤ 11 + i
/-- The steps lead from each world to the next. -/
structure HI (D : List StM) (Ws : List Wd) : Prop where
  len : D.length + 1 = Ws.length
  st : ∀ j s, D[j]? = some s → s.nm = stepN ∧ ∃ a b, Ws[j]? = some a ∧ Ws[j + 1]? = some b ∧ s.ob = encD a.p b.p ∧ s.bb = encD b.p a.p
theorem UI.keep {w w' : World} {base m ac i : Nat} {AA : Option Addr} {Ws : List Wd} {K0 : List Kp2} {B : Nat} (h : UI w base AA m ac Ws K0 i) (hq : Kx B [263, 265] w w') : UI w' base AA m ac Ws K0 i :=
  ⟨hq.own h.own (by decide), h.len, fun x hx => ⟨(h.y x hx).1.keep (hq.mono (Nat.zero_le _) (fun _ h => h)) (by decide) (by decide) (by decide) (by decide) (by decide), (h.y x hx).2⟩⟩
theorem UI.good {w : World} {base m ac i : Nat} {AA : Option Addr} {Ws : List Wd} {K0 : List Kp2} (h : UI w base AA m ac Ws K0 i) (hc : checkF K0 = 0) {x : Wd} (hx : x ∈ Ws) : GoodW x.p := goodW_of (by rw [(h.y x hx).2.2.1]; exact hc) (h.y x hx).2.1
theorem UI.enc {w : World} {base m ac i : Nat} {AA : Option Addr} {Ws : List Wd} {K0 : List Kp2} (h : UI w base AA m ac Ws K0 i) (hi : i ≤ 16) (hc : checkF K0 = 0) {x y : Wd} (hx : x ∈ Ws) (hy : y ∈ Ws) : encOk (FW x.p) (FW y.p) := by
  have hx1 := h.y x hx
  have hy1 := h.y y hy
  have a1 := hx1.2.1.its_len
  have a2 := hy1.2.1.its_len
  exact encOk_of (h.good hc hx).sz (h.good hc hy).sz (by rw [hx1.2.2.1, hy1.2.2.1]) (by omega) (by omega) (by omega) (by omega)
theorem wcheck_of {p : Wv Kp2} (h0 : checkF p.ks = 0) (h : VW holdK p) : wcheckF p = 0 := check_of h0 h

theorem HistY.keepx {w w' : World} {hb base dn dc gn gc : Nat} {x : Wd} {dA gA : Option Addr} {D G : List StM} {F : List TypeId} (h : HistY w hb base x dA dn dc D gA gn gc G) (hq : Kx 0 F w w') (h3 : (3 : TypeId) ∉ F) (h166 : (166 : TypeId) ∉ F) (h147 : (147 : TypeId) ∉ F) (h66 : (66 : TypeId) ∉ F) (h63 : (63 : TypeId) ∉ F) (h5 : (5 : TypeId) ∉ F) (h263 : (263 : TypeId) ∉ F) (h265 : (265 : TypeId) ∉ F) : HistY w' hb base x dA dn dc D gA gn gc G :=
  ⟨hq.bk h.bk h263, h.x.keep hq h3 h166 h147 h66 h63, h.d.keep hq h5 h265, h.g.keep hq h5 h265, h.ne, h.lo⟩
theorem HistY.below {w w' : World} {hb base dn dc gn gc : Nat} {x : Wd} {dA gA : Option Addr} {D G : List StM} (h : HistY w hb base x dA dn dc D gA gn gc G) (hq : Below w.heap.size w w') : HistY w' hb base x dA dn dc D gA gn gc G :=
  h.keepx (F := []) (Kx.of_below hq) (by simp) (by simp) (by simp) (by simp) (by simp) (by simp) (by simp) (by simp)
theorem UI.more {w : World} {base m ac i : Nat} {AA : Option Addr} {Ws : List Wd} {K0 : List Kp2} (h : UI w base AA m ac Ws K0 i) : UI w base AA m ac Ws K0 (i + 1) := ⟨h.own, h.len, fun x hx => ⟨(h.y x hx).1, (h.y x hx).2.1, (h.y x hx).2.2.1, by have := (h.y x hx).2.2.2; omega⟩⟩
theorem UI.snoc {w w' : World} {base m ac i g c : Nat} {AA : Option Addr} {Ws : List Wd} {K0 : List Kp2} {y : Wd} (h : UI w base AA m ac Ws K0 i) (hq : Kx 0 [52] w w') (ho : w'.ownsRow base 52 3 (.slice (some ⟨g, 0, none⟩) (m + 1) c) (m + 1) (wdCs Ws ++ [.slice y.kA y.kn y.kc, .slice y.gA y.gn y.gc, .slice y.iA y.im y.ic])) (hy : WdY w 0 y ∧ VW holdK y.p ∧ y.p.ks = K0 ∧ y.p.gens.length ≤ 11 + (i + 1)) : UI w' base (some ⟨g, 0, none⟩) (m + 1) c (Ws ++ [y]) K0 (i + 1) :=
  ⟨by rw [show wdCs (Ws ++ [y]) = wdCs Ws ++ [.slice y.kA y.kn y.kc, .slice y.gA y.gn y.gc, .slice y.iA y.im y.ic] by simp [wdCs, Wd.cs]]; exact ho, by simp [h.len], fun x hx => by
    rcases List.mem_append.1 hx with hx | hx
    · exact ⟨(h.y x hx).1.keep hq (by decide) (by decide) (by decide) (by decide) (by decide), (h.y x hx).2.1, (h.y x hx).2.2.1, by have := (h.y x hx).2.2.2; omega⟩
    · rw [List.mem_singleton.1 hx]
      exact ⟨hy.1.keep hq (by decide) (by decide) (by decide) (by decide) (by decide), hy.2⟩⟩
theorem HI.snoc {D : List StM} {Ws : List Wd} {s : StM} {a y : Wd} (h : HI D Ws) (ha : Ws[D.length]? = some a) (h1 : s.nm = stepN) (h2 : s.ob = encD a.p y.p) (h3 : s.bb = encD y.p a.p) : HI (D ++ [s]) (Ws ++ [y]) := by
  have hl := h.len
  refine ⟨by simp [hl], fun j t ht => ?_⟩
  rcases Nat.lt_or_ge j D.length with hj | hj
  · rw [List.getElem?_append_left hj] at ht
    obtain ⟨e1, a', b', e2, e3, e4, e5⟩ := h.st j t ht
    exact ⟨e1, a', b', by rw [List.getElem?_append_left (by omega)]; exact e2, by rw [List.getElem?_append_left (by omega)]; exact e3, e4, e5⟩
  · have hj2 := (List.getElem?_eq_some_iff.1 ht).1
    rw [List.length_append] at hj2
    have e : j = D.length := by simp at hj2; omega
    subst e
    rw [List.getElem?_append_right (by omega), Nat.sub_self] at ht
    have e : t = s := by simpa using ht.symm
    subst e
    exact ⟨h1, a, y, by rw [List.getElem?_append_left (by omega)]; exact ha, by rw [List.getElem?_append_right (by omega), ← hl, Nat.sub_self]; rfl, h2, h3⟩
/-- Step k: the first k steps and those behind it, as the two rows hold them. -/
theorem HI.at_ {D : List StM} {Ws : List Wd} (h : HI D Ws) {k : Nat} (hk : k < D.length) : ∃ s a b, D.take (k + 1) = D.take k ++ [s] ∧ (D.drop k).reverse = (D.drop (k + 1)).reverse ++ [s] ∧ s.nm = stepN ∧ Ws[k]? = some a ∧ Ws[k + 1]? = some b ∧ s.ob = encD a.p b.p ∧ s.bb = encD b.p a.p := by
  obtain ⟨s, hs⟩ : ∃ s, D[k]? = some s := ⟨_, List.getElem?_eq_getElem hk⟩
  obtain ⟨e1, a, b, e2, e3, e4, e5⟩ := h.st k s hs
  refine ⟨s, a, b, ?_, ?_, e1, e2, e3, e4, e5⟩
  · rw [List.take_add_one, hs]; rfl
  · have : D.drop k = s :: D.drop (k + 1) := by
      rw [List.drop_eq_getElem_cons hk]
      rw [List.getElem?_eq_getElem hk] at hs
      injection hs with hs
      rw [hs]
    rw [this, List.reverse_cons]
section
variable {P : Program} {ops : Array Oper} {Q : Exit → Act → World → Prop} {md : Region.Mode} {S : World → Prop}
theorem wpAnyH_val {i : Nat} {oi : Oper} {d : Option Tmp} {v : Value} {fuel : Nat} {listed : Array Bool} {a : Act} {w : World} (hi : ops[i]? = some oi) (hd : oi.dst = d)
    (hs : Region.noSelect ops = true) (hf : Region.free md ops listed i = true) (hr : (Region.ready md ops listed).contains i = true)
    (hQ : ∀ c a w, Q (.panic c) (a.put d v) w → Q (.panic c) a w) (hy : YieldsIf P ops S oi v a) (hS : S w)
    (h : wpAnyH P md ops Q S fuel (listed.setIfInBounds i true) (a.put d v) w) : wpAnyH P md ops Q S (fuel + 1) listed a w := by
  subst hd
  exact wpAnyH_take hi hs hf hr hQ hy hS h
theorem wpAnyH_oneW {i : Nat} {oi : Oper} {fuel : Nat} {listed : Array Bool} {a : Act} {w : World} (hi : ops[i]? = some oi) (hr : Region.ready md ops listed = [i]) (hg : Region.wanted oi (yielded ops a.tmps) = true)
    (h : oi.wp P a w (fun a' w' => S w' ∧ wpAnyH P md ops Q S fuel (listed.setIfInBounds i true) a' w') Q) : wpAnyH P md ops Q S (fuel + 1) listed a w :=
  wpAnyH_all hr (by simp) fun j hj => by
    have e : j = i := by simpa using hj
    subst e
    unfold wpOp
    simp only [hi, hg, if_true]
    exact .inl h
theorem wp_region_H {id : Nat} {a : Act} {w : World} (hm : P.follows .mixedOrders = true)
    (h : wpAnyH P .any ops Q S ops.size (Array.replicate ops.size false) a w.drew) : (Code.region id ops true).wp P Q a w :=
  wp_region_held hm h
end

set_option maxHeartbeats 16000000 in
theorem undoAll_any (A A' : Option Addr) (n c n' c' B : Nat) (zs zs' : List Int) (N : Int) (w : World) (hr : Rd w B 1 A n (zs.map (Value.int .i64))) (hn : n = zs.length) (hnc : n ≤ c) (hc : c ≤ 9223372036854775807) (hz : ∀ z ∈ zs, (Lit.int .i64 z).wf = true)
    (hr' : Rd w B 1 A' n' (zs'.map (Value.int .i64))) (hn' : n' = zs'.length) (hnc' : n' ≤ c') (hc' : c' ≤ 9223372036854775807) (hz' : ∀ z ∈ zs', (Lit.int .i64 z).wf = true) (hB : B ≤ w.heap.size) :
    Calls Try.prog 17 #[.slice A n c, .slice A' n' c', .int .i64 N] w fun e w' => e = .returned (.bool true) ∧ Below w.heap.size w w' := by
  obtain ⟨iW, hiW, hzW0, hzW1, hzW2⟩ := info_parts T.infoWd
  have HWO := Lib.hid (world_any A n c B zs w hr hn hnc hc hz hB)
  have HX := Lib.hid (And.intro hr' (And.intro hn' (And.intro hnc' (And.intro hc' hz'))))
  have HUN := Lib.hid undoes_any
  have hand := and15 N
  obtain ⟨r, hr16⟩ : ∃ r : Nat, N % 16 = r := ⟨(N % 16).toNat, by omega⟩
  have hrl : r ≤ 15 := by omega
  rw [hr16] at hand
  have HR16 := Lib.hid hr16
  clear hr hn hnc hc hz hr' hn' hnc' hz' hr16
  go_enter Try.func17, Try.ntmps17
  go_wp2_with fail
  with_reducible refine (HWO.out).mono ?_
  clear HWO
  rintro e w1 ⟨x0, rfl, HX0, hb1⟩
  unfold Wd.v
  dsimp only
  obtain ⟨w2, hw2⟩ : ∃ w2, w2 = w1.alloc (.cells #[.slice x0.kA x0.kn x0.kc, .slice x0.gA x0.gn x0.gc, .slice x0.iA x0.im x0.ic] 52) := ⟨_, rfl⟩
  have hb2 : Below w.heap.size w w2 := by rw [hw2]; exact hb1.alloc hb1.size _
  have hk7 : Bk w2 w1.heap.size 52 #[.slice x0.kA x0.kn x0.kc, .slice x0.gA x0.gn x0.gc, .slice x0.iA x0.im x0.ic] := by rw [hw2]; exact Bk.new _ _ _
  have hx2 : WdY w2 0 x0 := HX0.out.1.keep (F := []) (by rw [hw2]; exact (Kx.refl (B := 0)).alloc _) (by simp) (by simp) (by simp) (by simp) (by simp)
  have hv0 := HX0.out.2.1
  have hc0 := HX0.out.2.2.1
  have HN := Lib.hid (new82_any x0 w2.heap.size w2 hx2.ok_ (Nat.le_refl _) (goodW_of hc0 hv0).sz (wcheck_of hc0 hv0))
  obtain ⟨h7, hh7⟩ : ∃ h7, h7 = w1.heap.size := ⟨_, rfl⟩
  rw [← hh7] at hk7
  have a0 : w2.cell? ⟨h7, 0, none⟩ = some (.slice x0.kA x0.kn x0.kc) := hk7.cell 0
  have a1 : w2.cell? ⟨h7, 1, none⟩ = some (.slice x0.gA x0.gn x0.gc) := hk7.cell 1
  have a2 : w2.cell? ⟨h7, 2, none⟩ = some (.slice x0.iA x0.im x0.ic) := hk7.cell 2
  have HB2 := Lib.hid hb2
  have HK7 := Lib.hid hk7
  have HX2 := Lib.hid hx2
  have HW2 := Lib.hid hw2
  have HH7 := Lib.hid hh7
  clear hb1 hb2 hk7 hx2 hw2 hh7
  go_upto_region 2 with fail
  rw [← HW2.out, ← HH7.out]
  clear HW2 HH7
  go_wp2_with fail
  with_reducible refine (HN.out).mono ?_
  clear HN
  rintro e w3 ⟨hb, y0, rfl, HY0, hb3⟩
  have HB3 := Lib.hid hb3
  clear hb3 a0 a1 a2
  go_wp2_with fail
  with_reducible refine (HUN.out w3).mono ?_
  clear HUN
  rintro e w4 ⟨rfl, hb4⟩
  have hz3 : w2.heap.size ≤ w3.heap.size := HB3.out.size
  have hz2 : w.heap.size ≤ w2.heap.size := HB2.out.size
  have hz4 : w3.heap.size ≤ w4.heap.size := hb4.size
  have hk4 : Kx 0 [] w2 w4 := (Kx.of_below HB3.out).trans (Kx.of_below hb4)
  have hb24 : Below w.heap.size w w4 := (HB2.out.trans (HB3.out.mono hz2)).trans (hb4.mono (by omega))
  have hk74 := hk4.bk HK7.out (by simp)
  have a0 : w4.cell? ⟨h7, 0, none⟩ = some (.slice x0.kA x0.kn x0.kc) := hk74.cell 0
  have a1 : w4.cell? ⟨h7, 1, none⟩ = some (.slice x0.gA x0.gn x0.gc) := hk74.cell 1
  have a2 : w4.cell? ⟨h7, 2, none⟩ = some (.slice x0.iA x0.im x0.ic) := hk74.cell 2
  obtain ⟨w5, hw5⟩ : ∃ w5, w5 = w4.alloc (.cells #[.slice x0.kA x0.kn x0.kc, .slice x0.gA x0.gn x0.gc, .slice x0.iA x0.im x0.ic] 52) := ⟨_, rfl⟩
  have HB5 : Hid (Below w.heap.size w w5) := Lib.hid (by rw [hw5]; exact hb24.alloc hb24.size _)
  have hk5 : Kx 0 [] w4 w5 := by rw [hw5]; exact Kx.refl.alloc _
  have HU5 : Hid (UI w5 w.heap.size (some ⟨w4.heap.size, 0, none⟩) 1 1 [x0] x0.p.ks 0) := Lib.hid (by
    have hnew : Bk w5 w4.heap.size 52 #[.slice x0.kA x0.kn x0.kc, .slice x0.gA x0.gn x0.gc, .slice x0.iA x0.im x0.ic] := by rw [hw5]; exact Bk.new _ _ _
    exact ⟨⟨by simp [wdCs, Wd.cs], .inr ⟨w4.heap.size, 1, _, rfl, by omega, hnew, Nat.le_refl _, by unfold maxLen; omega, rfl, rfl⟩⟩, rfl, fun x hx => by
      rw [List.mem_singleton.1 hx]
      exact ⟨(HX2.out.keep hk4 (by simp) (by simp) (by simp) (by simp) (by simp)).keep hk5 (by simp) (by simp) (by simp) (by simp) (by simp), HX0.out.2.1, rfl, HX0.out.2.2.2⟩⟩)
  have HH5 : Hid (HistY w5 hb w.heap.size y0 none 0 0 [] none 0 0 []) := Lib.hid (by
    have hk35 : Kx 0 [] w3 w5 := (Kx.of_below hb4).trans hk5
    exact ⟨hk35.bk HY0.out.1 (by simp), HY0.out.2.1.keep hk35 (by simp) (by simp) (by simp) (by simp) (by simp), RowM.nil_ _ _, RowM.nil_ _ _, (fun q hq => by simp [Value.ownBlock] at hq), by have := HY0.out.2.2.2; omega⟩)
  have HP5 : Hid (HI [] [x0] ∧ y0.p = x0.p) := Lib.hid ⟨⟨rfl, fun j s hs => by simp at hs⟩, HY0.out.2.2.1⟩
  have HC0 := Lib.hid hc0
  have HW5 := Lib.hid hw5
  clear hw5 hk5 hk4 hk74 hb24 hb4 hv0 hc0
  go_upto_region 6 with fail
  rw [← HW5.out]
  clear HW5 a0 a1 a2
  go_wp2_with fail
  go_loopw [10, 37] (fun av iv wr => ∃ (i dn ac dc : Nat) (AA dA : Option Addr) (Ws : List Wd) (now : Wd) (D : List StM), i ≤ r ∧ iv = .int .i64 i ∧ av = .slice AA (dn + 1) ac ∧ dn ≤ i ∧ Hid (UI wr w.heap.size AA (dn + 1) ac Ws x0.p.ks i) ∧ Hid (HistY wr hb w.heap.size now dA dn dc D none 0 0 []) ∧ Hid (HI D Ws ∧ ∃ z, Ws[dn]? = some z ∧ now.p = z.p) ∧ Hid (Below w.heap.size w wr)) (fun _ iv _ => r - (intOf iv).toNat)
  case atStart => exact ⟨0, 0, 1, 0, _, none, [x0], y0, [], Nat.zero_le _, rfl, rfl, Nat.le_refl _, HU5, HH5, Lib.hid ⟨HP5.out.1, x0, rfl, HP5.out.2⟩, HB5⟩
  case round =>
    clear HU5 HH5 HP5 HB5
    obtain ⟨i, dn, ac, dc, AA, dA, Ws, now, D, hi, rfl, rfl, hdi, HU, HH, HP, HB⟩ := hrel
    obtain ⟨wo, rfl⟩ : ∃ z, z = wr := ⟨_, rfl⟩
    have hwo : w.heap.size ≤ wo.heap.size := HB.out.size
    by_cases hlt : i < r
    · obtain ⟨lst, hls, hnow⟩ := HP.out.2
      have hmem := List.mem_of_getElem? hls
      obtain ⟨b, o, rfl, hbb, q0, q1, q2⟩ := (Rd.of_own HU.out.own).wd (k := dn) (by omega) hls
      have hl := HU.out.y lst hmem
      have HLS := Lib.hid hls
      have HNW := Lib.hid hnow
      obtain ⟨lo, hlo⟩ : ∃ lo, lo = min i n' := ⟨_, rfl⟩
      have hlon : lo ≤ n' := by omega
      have hlz : min (i : Int) (n' : Int) = (lo : Int) := by omega
      have HCH : Hid (∀ wz, Below wo.heap.size wo wz → ∀ (A2 : Option Addr) (c2 : Nat), Rd wz B 1 A2 (n' - lo) ((zs'.drop lo).map (Value.int .i64)) → n' - lo ≤ c2 → c2 ≤ 9223372036854775807 → Calls Try.prog 30 #[.agg #[.slice lst.kA lst.kn lst.kc, .slice lst.gA lst.gn lst.gc, .slice lst.iA lst.im lst.ic], .slice A2 (n' - lo) c2] wz fun e w' => ∃ y : Wd, e = .returned (.agg #[.slice y.kA y.kn y.kc, .slice y.gA y.gn y.gc, .slice y.iA y.im y.ic]) ∧ Hid (WdY w' 0 y ∧ VW holdK y.p ∧ y.p.ks = x0.p.ks ∧ y.p.gens.length ≤ 11 + (i + 1)) ∧ Below wz.heap.size wz w') := Lib.hid (fun wz hbz A2 c2 h1 h2 h3 => by
        refine (changed2_any lst A2 (n' - lo) c2 B (zs'.drop lo) wz (hl.1.below hbz) hl.2.1 (by rw [hl.2.2.1]; exact HC0.out) (by have := hl.2.2.2; show lst.p.gens.length < 256; omega) h1 (by rw [List.length_drop, HX.out.2.1]) h2 h3 (fun z hz => HX.out.2.2.2.2 z (List.mem_of_mem_drop hz)) (by have := hbz.size; omega)).mono ?_
        rintro e w' ⟨y, rfl, h4, h5⟩
        exact ⟨y, rfl, Lib.hid ⟨h4.out.1, h4.out.2.1, by rw [h4.out.2.2.2.1]; exact hl.2.2.1, by have := h4.out.2.2.2.2; have := hl.2.2.2; omega⟩, h5⟩)
      have HSF : Hid (∀ wz, Below wo.heap.size wo wz → ∀ (A2 : Option Addr), ((lo = c' → lo = n') ∧ (lo ≠ c' → A2 = A'.map (fun a => a.add lo))) → Rd wz B 1 A2 (n' - lo) ((zs'.drop lo).map (Value.int .i64))) := Lib.hid (fun wz hbz A2 hA2 => by
        have hr0 := (HX.out.1.below (HB.out.mono hB)).below (hbz.mono (by omega))
        rcases Nat.eq_zero_or_pos (n' - lo) with h | h
        · have : zs'.drop lo = [] := List.drop_eq_nil_of_le (by have := HX.out.2.1; omega)
          rw [h, this]; exact Rd.nil_ _
        · obtain ⟨b', o', e, h1, h2⟩ := hr0.2 (by omega)
          have hA := hA2.2 (by have := HX.out.2.2.1; omega)
          subst e
          refine ⟨by have := HX.out.2.1; simp; omega, fun _ => ⟨b', o' + lo, by rw [hA]; simp [Addr.add], h1, fun j u hu => ?_⟩⟩
          rw [Nat.add_assoc]
          refine h2 (lo + j) u ?_
          rw [List.map_drop, List.getElem?_drop] at hu
          exact hu)
      have hnc9 : n' ≤ c' := HX.out.2.2.1
      have hlc : lo ≤ c' := by omega
      have hwd : IntKind.i64.wrap (dn : Int) = dn := by rw [IntKind.wrap_i64]; omega
      have hdn0 : (dn : Int) < (dn : Int) + 1 := by omega
      clear hl hmem hls hnow hlo
      go_wp2_with fail
      go_cut [12] from 40 to 52 (fun pv wx => ∃ (h12 : Nat) (y : Wd), pv = .pointer (some ⟨h12, 0, none⟩) ∧ Hid (Bk wx h12 52 #[.slice y.kA y.kn y.kc, .slice y.gA y.gn y.gc, .slice y.iA y.im y.ic] ∧ WdY wx 0 y ∧ VW holdK y.p ∧ y.p.ks = x0.p.ks ∧ y.p.gens.length ≤ 11 + (i + 1) ∧ w.heap.size ≤ h12) ∧ Hid (Below wo.heap.size wo wx))
      case first =>
        have hs1 : ∀ wz, Below wo.heap.size wo wz → wz.cell? ⟨b, o + dn * 3, none⟩ = some (.slice lst.kA lst.kn lst.kc) ∧ wz.cell? ⟨b, o + dn * 3 + 1, none⟩ = some (.slice lst.gA lst.gn lst.gc) ∧ wz.cell? ⟨b, o + dn * 3 + 2, none⟩ = some (.slice lst.iA lst.im lst.ic) := fun wz hbz => ⟨(World.cell?_of_block (w := wo) (hbz.block b hbb)).trans q0, (World.cell?_of_block (w := wo) (hbz.block b hbb)).trans q1, (World.cell?_of_block (w := wo) (hbz.block b hbb)).trans q2⟩
        have s5 : wo.drew.cell? ⟨b, o + dn * 3, none⟩ = some (.slice lst.kA lst.kn lst.kc) ∧ wo.drew.cell? ⟨b, o + dn * 3 + 1, none⟩ = some (.slice lst.gA lst.gn lst.gc) ∧ wo.drew.cell? ⟨b, o + dn * 3 + 2, none⟩ = some (.slice lst.iA lst.im lst.ic) := ⟨q0, q1, q2⟩
        rcases A' with _ | ⟨b', o', sp'⟩
        · refine wp_region_E (S := fun wz => wz.cell? ⟨b, o + dn * 3, none⟩ = some (.slice lst.kA lst.kn lst.kc) ∧ wz.cell? ⟨b, o + dn * 3 + 1, none⟩ = some (.slice lst.gA lst.gn lst.gc) ∧ wz.cell? ⟨b, o + dn * 3 + 2, none⟩ = some (.slice lst.iA lst.im lst.ic)) (last := 14) (by kernel_rfl) ?_
          refine wpAnyE_val (i := 0) (v := .slice (some ⟨b, o, none⟩) (dn + 1) ac) (d := some 40) rfl rfl (by kernel_rfl) (by kernel_rfl) (by kernel_rfl) (by kernel_rfl) (fun _ _ _ h => h) (Or.inl ⟨by rfl, fun w hS => by (obtain ⟨h0, h1, h2⟩ := hS; go_simp)⟩) s5 ?_
          (try simp only [Act.put, List.setIfInBounds_toArray, List.set_cons_zero, List.set_cons_succ])
          refine wpAnyE_val (i := 1) (v := .slice (some ⟨b, o, none⟩) (dn + 1) ac) (d := some 41) rfl rfl (by kernel_rfl) (by kernel_rfl) (by kernel_rfl) (by kernel_rfl) (fun _ _ _ h => h) (Or.inl ⟨by rfl, fun w hS => by (obtain ⟨h0, h1, h2⟩ := hS; go_simp)⟩) s5 ?_
          (try simp only [Act.put, List.setIfInBounds_toArray, List.set_cons_zero, List.set_cons_succ])
          refine wpAnyE_val (i := 2) (v := .int .i64 ((dn : Int) + 1)) (d := some 42) rfl rfl (by kernel_rfl) (by kernel_rfl) (by kernel_rfl) (by kernel_rfl) (fun _ _ _ h => h) (Or.inl ⟨by rfl, fun w hS => by (obtain ⟨h0, h1, h2⟩ := hS; go_simp)⟩) s5 ?_
          (try simp only [Act.put, List.setIfInBounds_toArray, List.set_cons_zero, List.set_cons_succ])
          refine wpAnyE_val (i := 3) (v := .int .i64 dn) (d := some 43) rfl rfl (by kernel_rfl) (by kernel_rfl) (by kernel_rfl) (by kernel_rfl) (fun _ _ _ h => h) (Or.inl ⟨by rfl, fun w hS => by (obtain ⟨h0, h1, h2⟩ := hS; go_simp)⟩) s5 ?_
          (try simp only [Act.put, List.setIfInBounds_toArray, List.set_cons_zero, List.set_cons_succ])
          refine wpAnyE_val (i := 4) (v := .pointer (some ⟨b, o + dn * 3, none⟩)) (d := some 44) rfl rfl (by kernel_rfl) (by kernel_rfl) (by kernel_rfl) (by kernel_rfl) (fun _ _ _ h => h) (Or.inl ⟨by rfl, fun w hS => by (obtain ⟨h0, h1, h2⟩ := hS; go_simp)⟩) s5 ?_
          (try simp only [Act.put, List.setIfInBounds_toArray, List.set_cons_zero, List.set_cons_succ])
          refine wpAnyE_val (i := 5) (v := .agg #[.slice lst.kA lst.kn lst.kc, .slice lst.gA lst.gn lst.gc, .slice lst.iA lst.im lst.ic]) (d := some 45) rfl rfl (by kernel_rfl) (by kernel_rfl) (by kernel_rfl) (by kernel_rfl) (fun _ _ _ h => h) (Or.inl ⟨by rfl, fun w hS => by (obtain ⟨h0, h1, h2⟩ := hS; go_simp)⟩) s5 ?_
          (try simp only [Act.put, List.setIfInBounds_toArray, List.set_cons_zero, List.set_cons_succ])
          refine wpAnyE_val (i := 6) (v := .slice none n' c') (d := some 46) rfl rfl (by kernel_rfl) (by kernel_rfl) (by kernel_rfl) (by kernel_rfl) (fun _ _ _ h => h) (Or.inl ⟨by rfl, fun w hS => by (obtain ⟨h0, h1, h2⟩ := hS; go_simp)⟩) s5 ?_
          (try simp only [Act.put, List.setIfInBounds_toArray, List.set_cons_zero, List.set_cons_succ])
          refine wpAnyE_val (i := 7) (v := .int .i64 i) (d := some 47) rfl rfl (by kernel_rfl) (by kernel_rfl) (by kernel_rfl) (by kernel_rfl) (fun _ _ _ h => h) (Or.inl ⟨by rfl, fun w hS => by (obtain ⟨h0, h1, h2⟩ := hS; go_simp)⟩) s5 ?_
          (try simp only [Act.put, List.setIfInBounds_toArray, List.set_cons_zero, List.set_cons_succ])
          refine wpAnyE_val (i := 8) (v := .slice none n' c') (d := some 48) rfl rfl (by kernel_rfl) (by kernel_rfl) (by kernel_rfl) (by kernel_rfl) (fun _ _ _ h => h) (Or.inl ⟨by rfl, fun w hS => by (obtain ⟨h0, h1, h2⟩ := hS; go_simp)⟩) s5 ?_
          (try simp only [Act.put, List.setIfInBounds_toArray, List.set_cons_zero, List.set_cons_succ])
          refine wpAnyE_val (i := 9) (v := .int .i64 n') (d := some 49) rfl rfl (by kernel_rfl) (by kernel_rfl) (by kernel_rfl) (by kernel_rfl) (fun _ _ _ h => h) (Or.inl ⟨by rfl, fun w hS => by (obtain ⟨h0, h1, h2⟩ := hS; go_simp)⟩) s5 ?_
          (try simp only [Act.put, List.setIfInBounds_toArray, List.set_cons_zero, List.set_cons_succ])
          refine wpAnyE_val (i := 10) (v := .int .i64 lo) (d := some 50) rfl rfl (by kernel_rfl) (by kernel_rfl) (by kernel_rfl) (by kernel_rfl) (fun _ _ _ h => h) (Or.inl ⟨by rfl, fun w hS => by (obtain ⟨h0, h1, h2⟩ := hS; go_simp)⟩) s5 ?_
          (try simp only [Act.put, List.setIfInBounds_toArray, List.set_cons_zero, List.set_cons_succ])
          refine wpAnyE_val (i := 11) (v := .slice none (n' - lo) (c' - lo)) (d := some 51) rfl rfl (by kernel_rfl) (by kernel_rfl) (by kernel_rfl) (by kernel_rfl) (fun _ _ _ h => h) (Or.inl ⟨by rfl, fun w hS => by (obtain ⟨h0, h1, h2⟩ := hS; go_simp)⟩) s5 ?_
          (try simp only [Act.put, List.setIfInBounds_toArray, List.set_cons_zero, List.set_cons_succ])
          refine wpAnyE_twoV (i := 12) (j := 13) rfl rfl (by kernel_rfl) rfl rfl ?_ ?_
          · go_simp
            go_at_call 30
            (with_reducible refine (HCH.out _ ?hb _ _ ?r1 ?r2 ?r3).mono ?_)
            case hb => (repeat' first | exact Below.refl _ _ | refine Below.drew ?_)
            case r1 => exact HSF.out _ (by repeat' first | exact Below.refl _ _ | refine Below.drew ?_) _ ⟨fun _ => by omega, fun hh => by first | rfl | exact absurd rfl hh⟩
            case r2 => omega
            case r3 => omega
            rintro e w6 ⟨y, rfl, HY6, hb6⟩
            have hB6 : Below wo.heap.size wo w6 := Below.tr (by repeat' first | exact Below.refl _ _ | refine Below.drew ?_) hb6
            have hz6 : wo.heap.size ≤ w6.heap.size := hB6.size
            refine ⟨hs1 _ hB6, ?_⟩
            (try simp only [Act.put, List.setIfInBounds_toArray, List.set_cons_zero, List.set_cons_succ])
            obtain ⟨W7, hW7⟩ : ∃ W7, W7 = w6.alloc (.cells #[.slice none 0 0, .slice none 0 0, .slice none 0 0] 52) := ⟨_, rfl⟩
            have z7 : Bk W7 w6.heap.size 52 #[.slice none 0 0, .slice none 0 0, .slice none 0 0] := by rw [hW7]; exact Bk.new _ _ _
            have hB7 : Below wo.heap.size wo W7 := by rw [hW7]; exact hB6.alloc hB6.size _
            have HYW : Hid (WdY W7 0 y) := Lib.hid (by rw [hW7]; exact HY6.out.1.keep (F := []) ((Kx.refl (B := 0)).alloc _) (by simp) (by simp) (by simp) (by simp) (by simp))
            have HW7 := Lib.hid hW7
            clear hW7
            refine wpAnyE_one (i := 13) rfl (by kernel_rfl) rfl ?_
            go_simp
            rw [← HW7.out]
            first | refine And.intro (by first | exact hs1 _ hB7 | exact hs1 _ hB6) ?_ | skip
            (try simp only [Act.put, List.setIfInBounds_toArray, List.set_cons_zero, List.set_cons_succ])
            refine wpAnyE_one (i := 14) rfl (by kernel_rfl) rfl ?_
            have e0 : W7.cell? ⟨w6.heap.size, 0, none⟩ = some (.slice none 0 0) := z7.cell 0
            have f0 : W7.frozen? ⟨w6.heap.size, 0, none⟩ = false := z7.frozen 0
            have e1 : W7.cell? ⟨w6.heap.size, 1, none⟩ = some (.slice none 0 0) := z7.cell 1
            have f1 : W7.frozen? ⟨w6.heap.size, 1, none⟩ = false := z7.frozen 1
            have e2 : W7.cell? ⟨w6.heap.size, 2, none⟩ = some (.slice none 0 0) := z7.cell 2
            have f2 : W7.frozen? ⟨w6.heap.size, 2, none⟩ = false := z7.frozen 2
            have u0 := z7.set_ 0 (Value.slice y.kA y.kn y.kc)
            have u1 := u0.set_ 1 (Value.slice y.gA y.gn y.gc)
            have hK := ((Kx.refl (B := 0) (F := [52])).set z7 (Nat.zero_le _) (by simp) 0 (Value.slice y.kA y.kn y.kc)).set u0 (Nat.zero_le _) (by simp) 1 (Value.slice y.gA y.gn y.gc) |>.set u1 (Nat.zero_le _) (by simp) 2 (Value.slice y.iA y.im y.ic)
            have hBl := ((hB7.setCell (p := ⟨w6.heap.size, 0, none⟩) (by show wo.heap.size ≤ w6.heap.size; omega) (Value.slice y.kA y.kn y.kc)).setCell (p := ⟨w6.heap.size, 1, none⟩) (by show wo.heap.size ≤ w6.heap.size; omega) (Value.slice y.gA y.gn y.gc)).setCell (p := ⟨w6.heap.size, 2, none⟩) (by show wo.heap.size ≤ w6.heap.size; omega) (Value.slice y.iA y.im y.ic)
            have HFIN := Lib.hid (And.intro (u1.set_ 2 (Value.slice y.iA y.im y.ic)) (And.intro (HYW.out.keep hK (by decide) (by decide) (by decide) (by decide) (by decide)) hBl))
            clear u0 u1 hK hBl
            go_simp
            refine wpAnyE_done (by kernel_rfl) ?_ _
            go_wp2_with fail
            go_meet
            case rel => first
              | exact ⟨w6.heap.size, y, rfl, Lib.hid ⟨HFIN.out.1, HFIN.out.2.1, HY6.out.2.1, HY6.out.2.2.1, HY6.out.2.2.2, by omega⟩, Lib.hid HFIN.out.2.2⟩
              | exact ⟨w6.heap.size, y, rfl, Lib.hid ⟨Bk.drew HFIN.out.1, HFIN.out.2.1.keep (F := []) (Kx.refl (B := 0)).drew (by simp) (by simp) (by simp) (by simp) (by simp), HY6.out.2.1, HY6.out.2.2.1, HY6.out.2.2.2, by omega⟩, Lib.hid HFIN.out.2.2.drew⟩
          · obtain ⟨W7, hW7⟩ : ∃ W7, W7 = wo.alloc (.cells #[.slice none 0 0, .slice none 0 0, .slice none 0 0] 52) := ⟨_, rfl⟩
            have z7 : Bk W7 wo.heap.size 52 #[.slice none 0 0, .slice none 0 0, .slice none 0 0] := by rw [hW7]; exact Bk.new _ _ _
            have hB7 : Below wo.heap.size wo W7 := by rw [hW7]; exact Below.al (Below.refl _ _) _
            have HW7 := Lib.hid hW7
            clear hW7
            go_simp
            rw [← HW7.out]
            first | refine And.intro (by first | exact hs1 _ hB7 | exact s5) ?_ | skip
            (try simp only [Act.put, List.setIfInBounds_toArray, List.set_cons_zero, List.set_cons_succ])
            refine wpAnyE_one (i := 12) rfl (by kernel_rfl) rfl ?_
            go_simp
            go_at_call 30
            (with_reducible refine (HCH.out _ ?hb _ _ ?r1 ?r2 ?r3).mono ?_)
            case hb => (repeat' first | exact hB7 | refine Below.drew ?_)
            case r1 => exact HSF.out _ (by repeat' first | exact hB7 | refine Below.drew ?_) _ ⟨fun _ => by omega, fun hh => by first | rfl | exact absurd rfl hh⟩
            case r2 => omega
            case r3 => omega
            rintro e w6 ⟨y, rfl, HY6, hb6⟩
            have hB6 : Below wo.heap.size wo w6 := Below.tr (by repeat' first | exact hB7 | refine Below.drew ?_) hb6
            have hz6 : wo.heap.size ≤ w6.heap.size := hB6.size
            have z6 : Bk w6 wo.heap.size 52 #[.slice none 0 0, .slice none 0 0, .slice none 0 0] := by first | exact Bk.below z7 hb6 z7.lt | exact Bk.below (Bk.drew z7) hb6 z7.lt
            have HYW : Hid (WdY w6 0 y) := Lib.hid HY6.out.1
            first | refine And.intro (hs1 _ hB6) ?_ | skip
            (try simp only [Act.put, List.setIfInBounds_toArray, List.set_cons_zero, List.set_cons_succ])
            refine wpAnyE_one (i := 14) rfl (by kernel_rfl) rfl ?_
            have e0 : w6.cell? ⟨wo.heap.size, 0, none⟩ = some (.slice none 0 0) := z6.cell 0
            have f0 : w6.frozen? ⟨wo.heap.size, 0, none⟩ = false := z6.frozen 0
            have e1 : w6.cell? ⟨wo.heap.size, 1, none⟩ = some (.slice none 0 0) := z6.cell 1
            have f1 : w6.frozen? ⟨wo.heap.size, 1, none⟩ = false := z6.frozen 1
            have e2 : w6.cell? ⟨wo.heap.size, 2, none⟩ = some (.slice none 0 0) := z6.cell 2
            have f2 : w6.frozen? ⟨wo.heap.size, 2, none⟩ = false := z6.frozen 2
            have u0 := z6.set_ 0 (Value.slice y.kA y.kn y.kc)
            have u1 := u0.set_ 1 (Value.slice y.gA y.gn y.gc)
            have hK := ((Kx.refl (B := 0) (F := [52])).set z6 (Nat.zero_le _) (by simp) 0 (Value.slice y.kA y.kn y.kc)).set u0 (Nat.zero_le _) (by simp) 1 (Value.slice y.gA y.gn y.gc) |>.set u1 (Nat.zero_le _) (by simp) 2 (Value.slice y.iA y.im y.ic)
            have hBl := ((hB6.setCell (p := ⟨wo.heap.size, 0, none⟩) (by show wo.heap.size ≤ wo.heap.size; omega) (Value.slice y.kA y.kn y.kc)).setCell (p := ⟨wo.heap.size, 1, none⟩) (by show wo.heap.size ≤ wo.heap.size; omega) (Value.slice y.gA y.gn y.gc)).setCell (p := ⟨wo.heap.size, 2, none⟩) (by show wo.heap.size ≤ wo.heap.size; omega) (Value.slice y.iA y.im y.ic)
            have HFIN := Lib.hid (And.intro (u1.set_ 2 (Value.slice y.iA y.im y.ic)) (And.intro (HYW.out.keep hK (by decide) (by decide) (by decide) (by decide) (by decide)) hBl))
            clear u0 u1 hK hBl
            go_simp
            refine wpAnyE_done (by kernel_rfl) ?_ _
            go_wp2_with fail
            go_meet
            case rel => first
              | exact ⟨wo.heap.size, y, rfl, Lib.hid ⟨HFIN.out.1, HFIN.out.2.1, HY6.out.2.1, HY6.out.2.2.1, HY6.out.2.2.2, by omega⟩, Lib.hid HFIN.out.2.2⟩
              | exact ⟨wo.heap.size, y, rfl, Lib.hid ⟨Bk.drew HFIN.out.1, HFIN.out.2.1.keep (F := []) (Kx.refl (B := 0)).drew (by simp) (by simp) (by simp) (by simp) (by simp), HY6.out.2.1, HY6.out.2.2.1, HY6.out.2.2.2, by omega⟩, Lib.hid HFIN.out.2.2.drew⟩
        · by_cases hcl : c' = lo
          · subst hcl
            have hn0 : n' = c' := by omega
            subst hn0
            have HCH := Lib.hid (by have h := HCH.out; rw [Nat.sub_self] at h; exact h)
            have HSF := Lib.hid (by have h := HSF.out; rw [Nat.sub_self] at h; exact h)
            refine wp_region_E (S := fun wz => wz.cell? ⟨b, o + dn * 3, none⟩ = some (.slice lst.kA lst.kn lst.kc) ∧ wz.cell? ⟨b, o + dn * 3 + 1, none⟩ = some (.slice lst.gA lst.gn lst.gc) ∧ wz.cell? ⟨b, o + dn * 3 + 2, none⟩ = some (.slice lst.iA lst.im lst.ic)) (last := 14) (by kernel_rfl) ?_
            refine wpAnyE_val (i := 0) (v := .slice (some ⟨b, o, none⟩) (dn + 1) ac) (d := some 40) rfl rfl (by kernel_rfl) (by kernel_rfl) (by kernel_rfl) (by kernel_rfl) (fun _ _ _ h => h) (Or.inl ⟨by rfl, fun w hS => by (obtain ⟨h0, h1, h2⟩ := hS; go_simp)⟩) s5 ?_
            (try simp only [Act.put, List.setIfInBounds_toArray, List.set_cons_zero, List.set_cons_succ])
            refine wpAnyE_val (i := 1) (v := .slice (some ⟨b, o, none⟩) (dn + 1) ac) (d := some 41) rfl rfl (by kernel_rfl) (by kernel_rfl) (by kernel_rfl) (by kernel_rfl) (fun _ _ _ h => h) (Or.inl ⟨by rfl, fun w hS => by (obtain ⟨h0, h1, h2⟩ := hS; go_simp)⟩) s5 ?_
            (try simp only [Act.put, List.setIfInBounds_toArray, List.set_cons_zero, List.set_cons_succ])
            refine wpAnyE_val (i := 2) (v := .int .i64 ((dn : Int) + 1)) (d := some 42) rfl rfl (by kernel_rfl) (by kernel_rfl) (by kernel_rfl) (by kernel_rfl) (fun _ _ _ h => h) (Or.inl ⟨by rfl, fun w hS => by (obtain ⟨h0, h1, h2⟩ := hS; go_simp)⟩) s5 ?_
            (try simp only [Act.put, List.setIfInBounds_toArray, List.set_cons_zero, List.set_cons_succ])
            refine wpAnyE_val (i := 3) (v := .int .i64 dn) (d := some 43) rfl rfl (by kernel_rfl) (by kernel_rfl) (by kernel_rfl) (by kernel_rfl) (fun _ _ _ h => h) (Or.inl ⟨by rfl, fun w hS => by (obtain ⟨h0, h1, h2⟩ := hS; go_simp)⟩) s5 ?_
            (try simp only [Act.put, List.setIfInBounds_toArray, List.set_cons_zero, List.set_cons_succ])
            refine wpAnyE_val (i := 4) (v := .pointer (some ⟨b, o + dn * 3, none⟩)) (d := some 44) rfl rfl (by kernel_rfl) (by kernel_rfl) (by kernel_rfl) (by kernel_rfl) (fun _ _ _ h => h) (Or.inl ⟨by rfl, fun w hS => by (obtain ⟨h0, h1, h2⟩ := hS; go_simp)⟩) s5 ?_
            (try simp only [Act.put, List.setIfInBounds_toArray, List.set_cons_zero, List.set_cons_succ])
            refine wpAnyE_val (i := 5) (v := .agg #[.slice lst.kA lst.kn lst.kc, .slice lst.gA lst.gn lst.gc, .slice lst.iA lst.im lst.ic]) (d := some 45) rfl rfl (by kernel_rfl) (by kernel_rfl) (by kernel_rfl) (by kernel_rfl) (fun _ _ _ h => h) (Or.inl ⟨by rfl, fun w hS => by (obtain ⟨h0, h1, h2⟩ := hS; go_simp)⟩) s5 ?_
            (try simp only [Act.put, List.setIfInBounds_toArray, List.set_cons_zero, List.set_cons_succ])
            refine wpAnyE_val (i := 6) (v := .slice (some ⟨b', o', sp'⟩) n' n') (d := some 46) rfl rfl (by kernel_rfl) (by kernel_rfl) (by kernel_rfl) (by kernel_rfl) (fun _ _ _ h => h) (Or.inl ⟨by rfl, fun w hS => by (obtain ⟨h0, h1, h2⟩ := hS; go_simp)⟩) s5 ?_
            (try simp only [Act.put, List.setIfInBounds_toArray, List.set_cons_zero, List.set_cons_succ])
            refine wpAnyE_val (i := 7) (v := .int .i64 i) (d := some 47) rfl rfl (by kernel_rfl) (by kernel_rfl) (by kernel_rfl) (by kernel_rfl) (fun _ _ _ h => h) (Or.inl ⟨by rfl, fun w hS => by (obtain ⟨h0, h1, h2⟩ := hS; go_simp)⟩) s5 ?_
            (try simp only [Act.put, List.setIfInBounds_toArray, List.set_cons_zero, List.set_cons_succ])
            refine wpAnyE_val (i := 8) (v := .slice (some ⟨b', o', sp'⟩) n' n') (d := some 48) rfl rfl (by kernel_rfl) (by kernel_rfl) (by kernel_rfl) (by kernel_rfl) (fun _ _ _ h => h) (Or.inl ⟨by rfl, fun w hS => by (obtain ⟨h0, h1, h2⟩ := hS; go_simp)⟩) s5 ?_
            (try simp only [Act.put, List.setIfInBounds_toArray, List.set_cons_zero, List.set_cons_succ])
            refine wpAnyE_val (i := 9) (v := .int .i64 n') (d := some 49) rfl rfl (by kernel_rfl) (by kernel_rfl) (by kernel_rfl) (by kernel_rfl) (fun _ _ _ h => h) (Or.inl ⟨by rfl, fun w hS => by (obtain ⟨h0, h1, h2⟩ := hS; go_simp)⟩) s5 ?_
            (try simp only [Act.put, List.setIfInBounds_toArray, List.set_cons_zero, List.set_cons_succ])
            refine wpAnyE_val (i := 10) (v := .int .i64 n') (d := some 50) rfl rfl (by kernel_rfl) (by kernel_rfl) (by kernel_rfl) (by kernel_rfl) (fun _ _ _ h => h) (Or.inl ⟨by rfl, fun w hS => by (obtain ⟨h0, h1, h2⟩ := hS; go_simp)⟩) s5 ?_
            (try simp only [Act.put, List.setIfInBounds_toArray, List.set_cons_zero, List.set_cons_succ])
            refine wpAnyE_val (i := 11) (v := .slice (some ⟨b', o', sp'⟩) 0 0) (d := some 51) rfl rfl (by kernel_rfl) (by kernel_rfl) (by kernel_rfl) (by kernel_rfl) (fun _ _ _ h => h) (Or.inl ⟨by rfl, fun w hS => by (obtain ⟨h0, h1, h2⟩ := hS; go_simp)⟩) s5 ?_
            (try simp only [Act.put, List.setIfInBounds_toArray, List.set_cons_zero, List.set_cons_succ])
            refine wpAnyE_twoV (i := 12) (j := 13) rfl rfl (by kernel_rfl) rfl rfl ?_ ?_
            · go_simp
              go_at_call 30
              (with_reducible refine (HCH.out _ ?hb _ _ ?r1 ?r2 ?r3).mono ?_)
              case hb => (repeat' first | exact Below.refl _ _ | refine Below.drew ?_)
              case r1 => exact HSF.out _ (by repeat' first | exact Below.refl _ _ | refine Below.drew ?_) _ ⟨fun _ => by omega, fun hh => by first | rfl | exact absurd rfl hh⟩
              case r2 => omega
              case r3 => omega
              rintro e w6 ⟨y, rfl, HY6, hb6⟩
              have hB6 : Below wo.heap.size wo w6 := Below.tr (by repeat' first | exact Below.refl _ _ | refine Below.drew ?_) hb6
              have hz6 : wo.heap.size ≤ w6.heap.size := hB6.size
              refine ⟨hs1 _ hB6, ?_⟩
              (try simp only [Act.put, List.setIfInBounds_toArray, List.set_cons_zero, List.set_cons_succ])
              obtain ⟨W7, hW7⟩ : ∃ W7, W7 = w6.alloc (.cells #[.slice none 0 0, .slice none 0 0, .slice none 0 0] 52) := ⟨_, rfl⟩
              have z7 : Bk W7 w6.heap.size 52 #[.slice none 0 0, .slice none 0 0, .slice none 0 0] := by rw [hW7]; exact Bk.new _ _ _
              have hB7 : Below wo.heap.size wo W7 := by rw [hW7]; exact hB6.alloc hB6.size _
              have HYW : Hid (WdY W7 0 y) := Lib.hid (by rw [hW7]; exact HY6.out.1.keep (F := []) ((Kx.refl (B := 0)).alloc _) (by simp) (by simp) (by simp) (by simp) (by simp))
              have HW7 := Lib.hid hW7
              clear hW7
              refine wpAnyE_one (i := 13) rfl (by kernel_rfl) rfl ?_
              go_simp
              rw [← HW7.out]
              first | refine And.intro (by first | exact hs1 _ hB7 | exact hs1 _ hB6) ?_ | skip
              (try simp only [Act.put, List.setIfInBounds_toArray, List.set_cons_zero, List.set_cons_succ])
              refine wpAnyE_one (i := 14) rfl (by kernel_rfl) rfl ?_
              have e0 : W7.cell? ⟨w6.heap.size, 0, none⟩ = some (.slice none 0 0) := z7.cell 0
              have f0 : W7.frozen? ⟨w6.heap.size, 0, none⟩ = false := z7.frozen 0
              have e1 : W7.cell? ⟨w6.heap.size, 1, none⟩ = some (.slice none 0 0) := z7.cell 1
              have f1 : W7.frozen? ⟨w6.heap.size, 1, none⟩ = false := z7.frozen 1
              have e2 : W7.cell? ⟨w6.heap.size, 2, none⟩ = some (.slice none 0 0) := z7.cell 2
              have f2 : W7.frozen? ⟨w6.heap.size, 2, none⟩ = false := z7.frozen 2
              have u0 := z7.set_ 0 (Value.slice y.kA y.kn y.kc)
              have u1 := u0.set_ 1 (Value.slice y.gA y.gn y.gc)
              have hK := ((Kx.refl (B := 0) (F := [52])).set z7 (Nat.zero_le _) (by simp) 0 (Value.slice y.kA y.kn y.kc)).set u0 (Nat.zero_le _) (by simp) 1 (Value.slice y.gA y.gn y.gc) |>.set u1 (Nat.zero_le _) (by simp) 2 (Value.slice y.iA y.im y.ic)
              have hBl := ((hB7.setCell (p := ⟨w6.heap.size, 0, none⟩) (by show wo.heap.size ≤ w6.heap.size; omega) (Value.slice y.kA y.kn y.kc)).setCell (p := ⟨w6.heap.size, 1, none⟩) (by show wo.heap.size ≤ w6.heap.size; omega) (Value.slice y.gA y.gn y.gc)).setCell (p := ⟨w6.heap.size, 2, none⟩) (by show wo.heap.size ≤ w6.heap.size; omega) (Value.slice y.iA y.im y.ic)
              have HFIN := Lib.hid (And.intro (u1.set_ 2 (Value.slice y.iA y.im y.ic)) (And.intro (HYW.out.keep hK (by decide) (by decide) (by decide) (by decide) (by decide)) hBl))
              clear u0 u1 hK hBl
              go_simp
              refine wpAnyE_done (by kernel_rfl) ?_ _
              go_wp2_with fail
              go_meet
              case rel => first
                | exact ⟨w6.heap.size, y, rfl, Lib.hid ⟨HFIN.out.1, HFIN.out.2.1, HY6.out.2.1, HY6.out.2.2.1, HY6.out.2.2.2, by omega⟩, Lib.hid HFIN.out.2.2⟩
                | exact ⟨w6.heap.size, y, rfl, Lib.hid ⟨Bk.drew HFIN.out.1, HFIN.out.2.1.keep (F := []) (Kx.refl (B := 0)).drew (by simp) (by simp) (by simp) (by simp) (by simp), HY6.out.2.1, HY6.out.2.2.1, HY6.out.2.2.2, by omega⟩, Lib.hid HFIN.out.2.2.drew⟩
            · obtain ⟨W7, hW7⟩ : ∃ W7, W7 = wo.alloc (.cells #[.slice none 0 0, .slice none 0 0, .slice none 0 0] 52) := ⟨_, rfl⟩
              have z7 : Bk W7 wo.heap.size 52 #[.slice none 0 0, .slice none 0 0, .slice none 0 0] := by rw [hW7]; exact Bk.new _ _ _
              have hB7 : Below wo.heap.size wo W7 := by rw [hW7]; exact Below.al (Below.refl _ _) _
              have HW7 := Lib.hid hW7
              clear hW7
              go_simp
              rw [← HW7.out]
              first | refine And.intro (by first | exact hs1 _ hB7 | exact s5) ?_ | skip
              (try simp only [Act.put, List.setIfInBounds_toArray, List.set_cons_zero, List.set_cons_succ])
              refine wpAnyE_one (i := 12) rfl (by kernel_rfl) rfl ?_
              go_simp
              go_at_call 30
              (with_reducible refine (HCH.out _ ?hb _ _ ?r1 ?r2 ?r3).mono ?_)
              case hb => (repeat' first | exact hB7 | refine Below.drew ?_)
              case r1 => exact HSF.out _ (by repeat' first | exact hB7 | refine Below.drew ?_) _ ⟨fun _ => by omega, fun hh => by first | rfl | exact absurd rfl hh⟩
              case r2 => omega
              case r3 => omega
              rintro e w6 ⟨y, rfl, HY6, hb6⟩
              have hB6 : Below wo.heap.size wo w6 := Below.tr (by repeat' first | exact hB7 | refine Below.drew ?_) hb6
              have hz6 : wo.heap.size ≤ w6.heap.size := hB6.size
              have z6 : Bk w6 wo.heap.size 52 #[.slice none 0 0, .slice none 0 0, .slice none 0 0] := by first | exact Bk.below z7 hb6 z7.lt | exact Bk.below (Bk.drew z7) hb6 z7.lt
              have HYW : Hid (WdY w6 0 y) := Lib.hid HY6.out.1
              first | refine And.intro (hs1 _ hB6) ?_ | skip
              (try simp only [Act.put, List.setIfInBounds_toArray, List.set_cons_zero, List.set_cons_succ])
              refine wpAnyE_one (i := 14) rfl (by kernel_rfl) rfl ?_
              have e0 : w6.cell? ⟨wo.heap.size, 0, none⟩ = some (.slice none 0 0) := z6.cell 0
              have f0 : w6.frozen? ⟨wo.heap.size, 0, none⟩ = false := z6.frozen 0
              have e1 : w6.cell? ⟨wo.heap.size, 1, none⟩ = some (.slice none 0 0) := z6.cell 1
              have f1 : w6.frozen? ⟨wo.heap.size, 1, none⟩ = false := z6.frozen 1
              have e2 : w6.cell? ⟨wo.heap.size, 2, none⟩ = some (.slice none 0 0) := z6.cell 2
              have f2 : w6.frozen? ⟨wo.heap.size, 2, none⟩ = false := z6.frozen 2
              have u0 := z6.set_ 0 (Value.slice y.kA y.kn y.kc)
              have u1 := u0.set_ 1 (Value.slice y.gA y.gn y.gc)
              have hK := ((Kx.refl (B := 0) (F := [52])).set z6 (Nat.zero_le _) (by simp) 0 (Value.slice y.kA y.kn y.kc)).set u0 (Nat.zero_le _) (by simp) 1 (Value.slice y.gA y.gn y.gc) |>.set u1 (Nat.zero_le _) (by simp) 2 (Value.slice y.iA y.im y.ic)
              have hBl := ((hB6.setCell (p := ⟨wo.heap.size, 0, none⟩) (by show wo.heap.size ≤ wo.heap.size; omega) (Value.slice y.kA y.kn y.kc)).setCell (p := ⟨wo.heap.size, 1, none⟩) (by show wo.heap.size ≤ wo.heap.size; omega) (Value.slice y.gA y.gn y.gc)).setCell (p := ⟨wo.heap.size, 2, none⟩) (by show wo.heap.size ≤ wo.heap.size; omega) (Value.slice y.iA y.im y.ic)
              have HFIN := Lib.hid (And.intro (u1.set_ 2 (Value.slice y.iA y.im y.ic)) (And.intro (HYW.out.keep hK (by decide) (by decide) (by decide) (by decide) (by decide)) hBl))
              clear u0 u1 hK hBl
              go_simp
              refine wpAnyE_done (by kernel_rfl) ?_ _
              go_wp2_with fail
              go_meet
              case rel => first
                | exact ⟨wo.heap.size, y, rfl, Lib.hid ⟨HFIN.out.1, HFIN.out.2.1, HY6.out.2.1, HY6.out.2.2.1, HY6.out.2.2.2, by omega⟩, Lib.hid HFIN.out.2.2⟩
                | exact ⟨wo.heap.size, y, rfl, Lib.hid ⟨Bk.drew HFIN.out.1, HFIN.out.2.1.keep (F := []) (Kx.refl (B := 0)).drew (by simp) (by simp) (by simp) (by simp) (by simp), HY6.out.2.1, HY6.out.2.2.1, HY6.out.2.2.2, by omega⟩, Lib.hid HFIN.out.2.2.drew⟩
          · refine wp_region_E (S := fun wz => wz.cell? ⟨b, o + dn * 3, none⟩ = some (.slice lst.kA lst.kn lst.kc) ∧ wz.cell? ⟨b, o + dn * 3 + 1, none⟩ = some (.slice lst.gA lst.gn lst.gc) ∧ wz.cell? ⟨b, o + dn * 3 + 2, none⟩ = some (.slice lst.iA lst.im lst.ic)) (last := 14) (by kernel_rfl) ?_
            refine wpAnyE_val (i := 0) (v := .slice (some ⟨b, o, none⟩) (dn + 1) ac) (d := some 40) rfl rfl (by kernel_rfl) (by kernel_rfl) (by kernel_rfl) (by kernel_rfl) (fun _ _ _ h => h) (Or.inl ⟨by rfl, fun w hS => by (obtain ⟨h0, h1, h2⟩ := hS; go_simp)⟩) s5 ?_
            (try simp only [Act.put, List.setIfInBounds_toArray, List.set_cons_zero, List.set_cons_succ])
            refine wpAnyE_val (i := 1) (v := .slice (some ⟨b, o, none⟩) (dn + 1) ac) (d := some 41) rfl rfl (by kernel_rfl) (by kernel_rfl) (by kernel_rfl) (by kernel_rfl) (fun _ _ _ h => h) (Or.inl ⟨by rfl, fun w hS => by (obtain ⟨h0, h1, h2⟩ := hS; go_simp)⟩) s5 ?_
            (try simp only [Act.put, List.setIfInBounds_toArray, List.set_cons_zero, List.set_cons_succ])
            refine wpAnyE_val (i := 2) (v := .int .i64 ((dn : Int) + 1)) (d := some 42) rfl rfl (by kernel_rfl) (by kernel_rfl) (by kernel_rfl) (by kernel_rfl) (fun _ _ _ h => h) (Or.inl ⟨by rfl, fun w hS => by (obtain ⟨h0, h1, h2⟩ := hS; go_simp)⟩) s5 ?_
            (try simp only [Act.put, List.setIfInBounds_toArray, List.set_cons_zero, List.set_cons_succ])
            refine wpAnyE_val (i := 3) (v := .int .i64 dn) (d := some 43) rfl rfl (by kernel_rfl) (by kernel_rfl) (by kernel_rfl) (by kernel_rfl) (fun _ _ _ h => h) (Or.inl ⟨by rfl, fun w hS => by (obtain ⟨h0, h1, h2⟩ := hS; go_simp)⟩) s5 ?_
            (try simp only [Act.put, List.setIfInBounds_toArray, List.set_cons_zero, List.set_cons_succ])
            refine wpAnyE_val (i := 4) (v := .pointer (some ⟨b, o + dn * 3, none⟩)) (d := some 44) rfl rfl (by kernel_rfl) (by kernel_rfl) (by kernel_rfl) (by kernel_rfl) (fun _ _ _ h => h) (Or.inl ⟨by rfl, fun w hS => by (obtain ⟨h0, h1, h2⟩ := hS; go_simp)⟩) s5 ?_
            (try simp only [Act.put, List.setIfInBounds_toArray, List.set_cons_zero, List.set_cons_succ])
            refine wpAnyE_val (i := 5) (v := .agg #[.slice lst.kA lst.kn lst.kc, .slice lst.gA lst.gn lst.gc, .slice lst.iA lst.im lst.ic]) (d := some 45) rfl rfl (by kernel_rfl) (by kernel_rfl) (by kernel_rfl) (by kernel_rfl) (fun _ _ _ h => h) (Or.inl ⟨by rfl, fun w hS => by (obtain ⟨h0, h1, h2⟩ := hS; go_simp)⟩) s5 ?_
            (try simp only [Act.put, List.setIfInBounds_toArray, List.set_cons_zero, List.set_cons_succ])
            refine wpAnyE_val (i := 6) (v := .slice (some ⟨b', o', sp'⟩) n' c') (d := some 46) rfl rfl (by kernel_rfl) (by kernel_rfl) (by kernel_rfl) (by kernel_rfl) (fun _ _ _ h => h) (Or.inl ⟨by rfl, fun w hS => by (obtain ⟨h0, h1, h2⟩ := hS; go_simp)⟩) s5 ?_
            (try simp only [Act.put, List.setIfInBounds_toArray, List.set_cons_zero, List.set_cons_succ])
            refine wpAnyE_val (i := 7) (v := .int .i64 i) (d := some 47) rfl rfl (by kernel_rfl) (by kernel_rfl) (by kernel_rfl) (by kernel_rfl) (fun _ _ _ h => h) (Or.inl ⟨by rfl, fun w hS => by (obtain ⟨h0, h1, h2⟩ := hS; go_simp)⟩) s5 ?_
            (try simp only [Act.put, List.setIfInBounds_toArray, List.set_cons_zero, List.set_cons_succ])
            refine wpAnyE_val (i := 8) (v := .slice (some ⟨b', o', sp'⟩) n' c') (d := some 48) rfl rfl (by kernel_rfl) (by kernel_rfl) (by kernel_rfl) (by kernel_rfl) (fun _ _ _ h => h) (Or.inl ⟨by rfl, fun w hS => by (obtain ⟨h0, h1, h2⟩ := hS; go_simp)⟩) s5 ?_
            (try simp only [Act.put, List.setIfInBounds_toArray, List.set_cons_zero, List.set_cons_succ])
            refine wpAnyE_val (i := 9) (v := .int .i64 n') (d := some 49) rfl rfl (by kernel_rfl) (by kernel_rfl) (by kernel_rfl) (by kernel_rfl) (fun _ _ _ h => h) (Or.inl ⟨by rfl, fun w hS => by (obtain ⟨h0, h1, h2⟩ := hS; go_simp)⟩) s5 ?_
            (try simp only [Act.put, List.setIfInBounds_toArray, List.set_cons_zero, List.set_cons_succ])
            refine wpAnyE_val (i := 10) (v := .int .i64 lo) (d := some 50) rfl rfl (by kernel_rfl) (by kernel_rfl) (by kernel_rfl) (by kernel_rfl) (fun _ _ _ h => h) (Or.inl ⟨by rfl, fun w hS => by (obtain ⟨h0, h1, h2⟩ := hS; go_simp)⟩) s5 ?_
            (try simp only [Act.put, List.setIfInBounds_toArray, List.set_cons_zero, List.set_cons_succ])
            refine wpAnyE_val (i := 11) (v := .slice (some ((⟨b', o', sp'⟩ : Addr).add lo)) (n' - lo) (c' - lo)) (d := some 51) rfl rfl (by kernel_rfl) (by kernel_rfl) (by kernel_rfl) (by kernel_rfl) (fun _ _ _ h => h) (Or.inl ⟨by rfl, fun w hS => by (obtain ⟨h0, h1, h2⟩ := hS; go_simp)⟩) s5 ?_
            (try simp only [Act.put, List.setIfInBounds_toArray, List.set_cons_zero, List.set_cons_succ])
            refine wpAnyE_twoV (i := 12) (j := 13) rfl rfl (by kernel_rfl) rfl rfl ?_ ?_
            · go_simp
              go_at_call 30
              (with_reducible refine (HCH.out _ ?hb _ _ ?r1 ?r2 ?r3).mono ?_)
              case hb => (repeat' first | exact Below.refl _ _ | refine Below.drew ?_)
              case r1 => exact HSF.out _ (by repeat' first | exact Below.refl _ _ | refine Below.drew ?_) _ ⟨fun _ => by omega, fun hh => by first | rfl | exact absurd rfl hh⟩
              case r2 => omega
              case r3 => omega
              rintro e w6 ⟨y, rfl, HY6, hb6⟩
              have hB6 : Below wo.heap.size wo w6 := Below.tr (by repeat' first | exact Below.refl _ _ | refine Below.drew ?_) hb6
              have hz6 : wo.heap.size ≤ w6.heap.size := hB6.size
              refine ⟨hs1 _ hB6, ?_⟩
              (try simp only [Act.put, List.setIfInBounds_toArray, List.set_cons_zero, List.set_cons_succ])
              obtain ⟨W7, hW7⟩ : ∃ W7, W7 = w6.alloc (.cells #[.slice none 0 0, .slice none 0 0, .slice none 0 0] 52) := ⟨_, rfl⟩
              have z7 : Bk W7 w6.heap.size 52 #[.slice none 0 0, .slice none 0 0, .slice none 0 0] := by rw [hW7]; exact Bk.new _ _ _
              have hB7 : Below wo.heap.size wo W7 := by rw [hW7]; exact hB6.alloc hB6.size _
              have HYW : Hid (WdY W7 0 y) := Lib.hid (by rw [hW7]; exact HY6.out.1.keep (F := []) ((Kx.refl (B := 0)).alloc _) (by simp) (by simp) (by simp) (by simp) (by simp))
              have HW7 := Lib.hid hW7
              clear hW7
              refine wpAnyE_one (i := 13) rfl (by kernel_rfl) rfl ?_
              go_simp
              rw [← HW7.out]
              first | refine And.intro (by first | exact hs1 _ hB7 | exact hs1 _ hB6) ?_ | skip
              (try simp only [Act.put, List.setIfInBounds_toArray, List.set_cons_zero, List.set_cons_succ])
              refine wpAnyE_one (i := 14) rfl (by kernel_rfl) rfl ?_
              have e0 : W7.cell? ⟨w6.heap.size, 0, none⟩ = some (.slice none 0 0) := z7.cell 0
              have f0 : W7.frozen? ⟨w6.heap.size, 0, none⟩ = false := z7.frozen 0
              have e1 : W7.cell? ⟨w6.heap.size, 1, none⟩ = some (.slice none 0 0) := z7.cell 1
              have f1 : W7.frozen? ⟨w6.heap.size, 1, none⟩ = false := z7.frozen 1
              have e2 : W7.cell? ⟨w6.heap.size, 2, none⟩ = some (.slice none 0 0) := z7.cell 2
              have f2 : W7.frozen? ⟨w6.heap.size, 2, none⟩ = false := z7.frozen 2
              have u0 := z7.set_ 0 (Value.slice y.kA y.kn y.kc)
              have u1 := u0.set_ 1 (Value.slice y.gA y.gn y.gc)
              have hK := ((Kx.refl (B := 0) (F := [52])).set z7 (Nat.zero_le _) (by simp) 0 (Value.slice y.kA y.kn y.kc)).set u0 (Nat.zero_le _) (by simp) 1 (Value.slice y.gA y.gn y.gc) |>.set u1 (Nat.zero_le _) (by simp) 2 (Value.slice y.iA y.im y.ic)
              have hBl := ((hB7.setCell (p := ⟨w6.heap.size, 0, none⟩) (by show wo.heap.size ≤ w6.heap.size; omega) (Value.slice y.kA y.kn y.kc)).setCell (p := ⟨w6.heap.size, 1, none⟩) (by show wo.heap.size ≤ w6.heap.size; omega) (Value.slice y.gA y.gn y.gc)).setCell (p := ⟨w6.heap.size, 2, none⟩) (by show wo.heap.size ≤ w6.heap.size; omega) (Value.slice y.iA y.im y.ic)
              have HFIN := Lib.hid (And.intro (u1.set_ 2 (Value.slice y.iA y.im y.ic)) (And.intro (HYW.out.keep hK (by decide) (by decide) (by decide) (by decide) (by decide)) hBl))
              clear u0 u1 hK hBl
              go_simp
              refine wpAnyE_done (by kernel_rfl) ?_ _
              go_wp2_with fail
              go_meet
              case rel => first
                | exact ⟨w6.heap.size, y, rfl, Lib.hid ⟨HFIN.out.1, HFIN.out.2.1, HY6.out.2.1, HY6.out.2.2.1, HY6.out.2.2.2, by omega⟩, Lib.hid HFIN.out.2.2⟩
                | exact ⟨w6.heap.size, y, rfl, Lib.hid ⟨Bk.drew HFIN.out.1, HFIN.out.2.1.keep (F := []) (Kx.refl (B := 0)).drew (by simp) (by simp) (by simp) (by simp) (by simp), HY6.out.2.1, HY6.out.2.2.1, HY6.out.2.2.2, by omega⟩, Lib.hid HFIN.out.2.2.drew⟩
            · obtain ⟨W7, hW7⟩ : ∃ W7, W7 = wo.alloc (.cells #[.slice none 0 0, .slice none 0 0, .slice none 0 0] 52) := ⟨_, rfl⟩
              have z7 : Bk W7 wo.heap.size 52 #[.slice none 0 0, .slice none 0 0, .slice none 0 0] := by rw [hW7]; exact Bk.new _ _ _
              have hB7 : Below wo.heap.size wo W7 := by rw [hW7]; exact Below.al (Below.refl _ _) _
              have HW7 := Lib.hid hW7
              clear hW7
              go_simp
              rw [← HW7.out]
              first | refine And.intro (by first | exact hs1 _ hB7 | exact s5) ?_ | skip
              (try simp only [Act.put, List.setIfInBounds_toArray, List.set_cons_zero, List.set_cons_succ])
              refine wpAnyE_one (i := 12) rfl (by kernel_rfl) rfl ?_
              go_simp
              go_at_call 30
              (with_reducible refine (HCH.out _ ?hb _ _ ?r1 ?r2 ?r3).mono ?_)
              case hb => (repeat' first | exact hB7 | refine Below.drew ?_)
              case r1 => exact HSF.out _ (by repeat' first | exact hB7 | refine Below.drew ?_) _ ⟨fun _ => by omega, fun hh => by first | rfl | exact absurd rfl hh⟩
              case r2 => omega
              case r3 => omega
              rintro e w6 ⟨y, rfl, HY6, hb6⟩
              have hB6 : Below wo.heap.size wo w6 := Below.tr (by repeat' first | exact hB7 | refine Below.drew ?_) hb6
              have hz6 : wo.heap.size ≤ w6.heap.size := hB6.size
              have z6 : Bk w6 wo.heap.size 52 #[.slice none 0 0, .slice none 0 0, .slice none 0 0] := by first | exact Bk.below z7 hb6 z7.lt | exact Bk.below (Bk.drew z7) hb6 z7.lt
              have HYW : Hid (WdY w6 0 y) := Lib.hid HY6.out.1
              first | refine And.intro (hs1 _ hB6) ?_ | skip
              (try simp only [Act.put, List.setIfInBounds_toArray, List.set_cons_zero, List.set_cons_succ])
              refine wpAnyE_one (i := 14) rfl (by kernel_rfl) rfl ?_
              have e0 : w6.cell? ⟨wo.heap.size, 0, none⟩ = some (.slice none 0 0) := z6.cell 0
              have f0 : w6.frozen? ⟨wo.heap.size, 0, none⟩ = false := z6.frozen 0
              have e1 : w6.cell? ⟨wo.heap.size, 1, none⟩ = some (.slice none 0 0) := z6.cell 1
              have f1 : w6.frozen? ⟨wo.heap.size, 1, none⟩ = false := z6.frozen 1
              have e2 : w6.cell? ⟨wo.heap.size, 2, none⟩ = some (.slice none 0 0) := z6.cell 2
              have f2 : w6.frozen? ⟨wo.heap.size, 2, none⟩ = false := z6.frozen 2
              have u0 := z6.set_ 0 (Value.slice y.kA y.kn y.kc)
              have u1 := u0.set_ 1 (Value.slice y.gA y.gn y.gc)
              have hK := ((Kx.refl (B := 0) (F := [52])).set z6 (Nat.zero_le _) (by simp) 0 (Value.slice y.kA y.kn y.kc)).set u0 (Nat.zero_le _) (by simp) 1 (Value.slice y.gA y.gn y.gc) |>.set u1 (Nat.zero_le _) (by simp) 2 (Value.slice y.iA y.im y.ic)
              have hBl := ((hB6.setCell (p := ⟨wo.heap.size, 0, none⟩) (by show wo.heap.size ≤ wo.heap.size; omega) (Value.slice y.kA y.kn y.kc)).setCell (p := ⟨wo.heap.size, 1, none⟩) (by show wo.heap.size ≤ wo.heap.size; omega) (Value.slice y.gA y.gn y.gc)).setCell (p := ⟨wo.heap.size, 2, none⟩) (by show wo.heap.size ≤ wo.heap.size; omega) (Value.slice y.iA y.im y.ic)
              have HFIN := Lib.hid (And.intro (u1.set_ 2 (Value.slice y.iA y.im y.ic)) (And.intro (HYW.out.keep hK (by decide) (by decide) (by decide) (by decide) (by decide)) hBl))
              clear u0 u1 hK hBl
              go_simp
              refine wpAnyE_done (by kernel_rfl) ?_ _
              go_wp2_with fail
              go_meet
              case rel => first
                | exact ⟨wo.heap.size, y, rfl, Lib.hid ⟨HFIN.out.1, HFIN.out.2.1, HY6.out.2.1, HY6.out.2.2.1, HY6.out.2.2.2, by omega⟩, Lib.hid HFIN.out.2.2⟩
                | exact ⟨wo.heap.size, y, rfl, Lib.hid ⟨Bk.drew HFIN.out.1, HFIN.out.2.1.keep (F := []) (Kx.refl (B := 0)).drew (by simp) (by simp) (by simp) (by simp) (by simp), HY6.out.2.1, HY6.out.2.2.1, HY6.out.2.2.2, by omega⟩, Lib.hid HFIN.out.2.2.drew⟩
      case rest =>
        obtain ⟨h12, y, rfl, HY, HBc⟩ := hcut
        obtain ⟨wv, rfl⟩ : ∃ z, z = wc := ⟨_, rfl⟩
        have hzv : wo.heap.size ≤ wv.heap.size := HBc.out.size
        have HUv : Hid (UI wv w.heap.size (some ⟨b, o, none⟩) (dn + 1) ac Ws x0.p.ks i) := Lib.hid (HU.out.keep (B := 0) (Kx.of_below HBc.out))
        have HHv : Hid (HistY wv hb w.heap.size now dA dn dc D none 0 0 []) := Lib.hid (HH.out.below HBc.out)
        have HBv : Hid (Below w.heap.size w wv) := Lib.hid (HB.out.trans (HBc.out.mono hwo))
        have s6 : wv.cell? ⟨b, o + dn * 3, none⟩ = some (.slice lst.kA lst.kn lst.kc) ∧ wv.cell? ⟨b, o + dn * 3 + 1, none⟩ = some (.slice lst.gA lst.gn lst.gc) ∧ wv.cell? ⟨b, o + dn * 3 + 2, none⟩ = some (.slice lst.iA lst.im lst.ic) ∧ wv.cell? ⟨h12, 0, none⟩ = some (.slice y.kA y.kn y.kc) ∧ wv.cell? ⟨h12, 1, none⟩ = some (.slice y.gA y.gn y.gc) ∧ wv.cell? ⟨h12, 2, none⟩ = some (.slice y.iA y.im y.ic) := ⟨(World.cell?_of_block (w := wo) (HBc.out.block b hbb)).trans q0, (World.cell?_of_block (w := wo) (HBc.out.block b hbb)).trans q1, (World.cell?_of_block (w := wo) (HBc.out.block b hbb)).trans q2, HY.out.1.cell 0, HY.out.1.cell 1, HY.out.1.cell 2⟩
        have HS6 : Hid (∀ wz, Below wv.heap.size wv wz → wz.cell? ⟨b, o + dn * 3, none⟩ = some (.slice lst.kA lst.kn lst.kc) ∧ wz.cell? ⟨b, o + dn * 3 + 1, none⟩ = some (.slice lst.gA lst.gn lst.gc) ∧ wz.cell? ⟨b, o + dn * 3 + 2, none⟩ = some (.slice lst.iA lst.im lst.ic) ∧ wz.cell? ⟨h12, 0, none⟩ = some (.slice y.kA y.kn y.kc) ∧ wz.cell? ⟨h12, 1, none⟩ = some (.slice y.gA y.gn y.gc) ∧ wz.cell? ⟨h12, 2, none⟩ = some (.slice y.iA y.im y.ic)) := Lib.hid (fun wz hbz => ⟨(bcell hbz b (by omega) _).trans s6.1, (bcell hbz b (by omega) _).trans s6.2.1, (bcell hbz b (by omega) _).trans s6.2.2.1, (bcell hbz h12 HY.out.1.lt _).trans s6.2.2.2.1, (bcell hbz h12 HY.out.1.lt _).trans s6.2.2.2.2.1, (bcell hbz h12 HY.out.1.lt _).trans s6.2.2.2.2.2⟩)
        have hlm := List.mem_of_getElem? HLS.out
        have HSM : Hid (∀ wz, Below wv.heap.size wv wz → Calls Try.prog 38 #[.agg #[.slice y.kA y.kn y.kc, .slice y.gA y.gn y.gc, .slice y.iA y.im y.ic], .agg #[.slice lst.kA lst.kn lst.kc, .slice lst.gA lst.gn lst.gc, .slice lst.iA lst.im lst.ic]] wz fun e w' => e = .returned (.bool (decide (y.p = lst.p))) ∧ Below wz.heap.size wz w') := Lib.hid (fun wz hbz => wsame_any (x := y) (y := lst) (HY.out.2.1.below hbz).ok_ (((HUv.out.y lst hlm).1).below hbz).ok_)
        clear HU HH HB HBc HCH HSF q0 q1 q2
        go_upto_if 60 with fail
        go_cut [60] from 53 to 59 (fun bv wx => bv = .bool (decide (y.p = lst.p)) ∧ Hid (Below wv.heap.size wv wx))
        case first =>
          refine wp_region_H (S := fun wz => wz.cell? ⟨b, o + dn * 3, none⟩ = some (.slice lst.kA lst.kn lst.kc) ∧ wz.cell? ⟨b, o + dn * 3 + 1, none⟩ = some (.slice lst.gA lst.gn lst.gc) ∧ wz.cell? ⟨b, o + dn * 3 + 2, none⟩ = some (.slice lst.iA lst.im lst.ic) ∧ wz.cell? ⟨h12, 0, none⟩ = some (.slice y.kA y.kn y.kc) ∧ wz.cell? ⟨h12, 1, none⟩ = some (.slice y.gA y.gn y.gc) ∧ wz.cell? ⟨h12, 2, none⟩ = some (.slice y.iA y.im y.ic)) (by kernel_rfl) ?_
          refine wpAnyH_val (i := 0) (v := .agg #[.slice y.kA y.kn y.kc, .slice y.gA y.gn y.gc, .slice y.iA y.im y.ic]) (d := some 53) rfl rfl (by kernel_rfl) (by kernel_rfl) (by kernel_rfl) (fun _ _ _ h => h) (Or.inl ⟨by rfl, fun w hS => by (obtain ⟨h0, h1, h2, h3, h4, h5⟩ := hS; go_simp)⟩) s6 ?_
          (try simp only [Act.put, List.setIfInBounds_toArray, List.set_cons_zero, List.set_cons_succ])
          refine wpAnyH_val (i := 1) (v := .slice (some ⟨b, o, none⟩) (dn + 1) ac) (d := some 54) rfl rfl (by kernel_rfl) (by kernel_rfl) (by kernel_rfl) (fun _ _ _ h => h) (Or.inl ⟨by rfl, fun w hS => by (obtain ⟨h0, h1, h2, h3, h4, h5⟩ := hS; go_simp)⟩) s6 ?_
          (try simp only [Act.put, List.setIfInBounds_toArray, List.set_cons_zero, List.set_cons_succ])
          refine wpAnyH_val (i := 2) (v := .slice (some ⟨b, o, none⟩) (dn + 1) ac) (d := some 55) rfl rfl (by kernel_rfl) (by kernel_rfl) (by kernel_rfl) (fun _ _ _ h => h) (Or.inl ⟨by rfl, fun w hS => by (obtain ⟨h0, h1, h2, h3, h4, h5⟩ := hS; go_simp)⟩) s6 ?_
          (try simp only [Act.put, List.setIfInBounds_toArray, List.set_cons_zero, List.set_cons_succ])
          refine wpAnyH_val (i := 3) (v := .int .i64 ((dn : Int) + 1)) (d := some 56) rfl rfl (by kernel_rfl) (by kernel_rfl) (by kernel_rfl) (fun _ _ _ h => h) (Or.inl ⟨by rfl, fun w hS => by (obtain ⟨h0, h1, h2, h3, h4, h5⟩ := hS; go_simp)⟩) s6 ?_
          (try simp only [Act.put, List.setIfInBounds_toArray, List.set_cons_zero, List.set_cons_succ])
          refine wpAnyH_val (i := 4) (v := .int .i64 dn) (d := some 57) rfl rfl (by kernel_rfl) (by kernel_rfl) (by kernel_rfl) (fun _ _ _ h => h) (Or.inl ⟨by rfl, fun w hS => by (obtain ⟨h0, h1, h2, h3, h4, h5⟩ := hS; go_simp)⟩) s6 ?_
          (try simp only [Act.put, List.setIfInBounds_toArray, List.set_cons_zero, List.set_cons_succ])
          refine wpAnyH_val (i := 5) (v := .pointer (some ⟨b, o + dn * 3, none⟩)) (d := some 58) rfl rfl (by kernel_rfl) (by kernel_rfl) (by kernel_rfl) (fun _ _ _ h => h) (Or.inl ⟨by rfl, fun w hS => by (obtain ⟨h0, h1, h2, h3, h4, h5⟩ := hS; go_simp)⟩) s6 ?_
          (try simp only [Act.put, List.setIfInBounds_toArray, List.set_cons_zero, List.set_cons_succ])
          refine wpAnyH_val (i := 6) (v := .agg #[.slice lst.kA lst.kn lst.kc, .slice lst.gA lst.gn lst.gc, .slice lst.iA lst.im lst.ic]) (d := some 59) rfl rfl (by kernel_rfl) (by kernel_rfl) (by kernel_rfl) (fun _ _ _ h => h) (Or.inl ⟨by rfl, fun w hS => by (obtain ⟨h0, h1, h2, h3, h4, h5⟩ := hS; go_simp)⟩) s6 ?_
          (try simp only [Act.put, List.setIfInBounds_toArray, List.set_cons_zero, List.set_cons_succ])
          refine wpAnyH_oneW (i := 7) rfl (by kernel_rfl) (by rfl) ?_
          go_simp
          go_at_call 38
          (with_reducible refine (HSM.out _ ?hb).mono ?_)
          case hb => (repeat' first | exact Below.refl _ _ | refine Below.drew ?_)
          rintro e w6 ⟨rfl, hb6⟩
          have hB6 : Below wv.heap.size wv w6 := Below.tr (by repeat' first | exact Below.refl _ _ | refine Below.drew ?_) hb6
          refine And.intro (HS6.out _ hB6) ?_
          (try simp only [Act.put, List.setIfInBounds_toArray, List.set_cons_zero, List.set_cons_succ])
          refine wpAnyH_done (by kernel_rfl) ?_ _
          go_wp2_with fail
          go_meet
          case rel => exact ⟨rfl, Lib.hid hB6⟩
        case rest =>
          obtain ⟨rfl, HB6⟩ := hcut
          obtain ⟨wy, rfl⟩ : ∃ z, z = wc := ⟨_, rfl⟩
          have hzy : wv.heap.size ≤ wy.heap.size := HB6.out.size
          have HUy : Hid (UI wy w.heap.size (some ⟨b, o, none⟩) (dn + 1) ac Ws x0.p.ks i) := Lib.hid (HUv.out.keep (B := 0) (Kx.of_below HB6.out))
          have HHy : Hid (HistY wy hb w.heap.size now dA dn dc D none 0 0 []) := Lib.hid (HHv.out.below HB6.out)
          have hby : Below w.heap.size w wy := HBv.out.trans (HB6.out.mono (by omega))
          have HBy := Lib.hid hby
          have hk12 := HY.out.1.below HB6.out HY.out.1.lt
          have HK12 := Lib.hid hk12
          have HYY := Lib.hid (HY.out.2.1.below HB6.out)
          clear HUv HHv HBv s6 HS6 HSM hby
          by_cases hsm : y.p = lst.p
          · rw [decide_eq_true hsm]
            clear hk12 hsm
            go_wp2_with fail
            go_roundw
            case rel => exact ⟨i + 1, dn, ac, dc, some ⟨b, o, none⟩, dA, Ws, now, D, by omega, by go_num, rfl, by omega, Lib.hid HUy.out.more, HHy, HP, HBy⟩
            case measure => simp [intOf]; omega
          · rw [decide_eq_false hsm]
            have hl := HUy.out.y lst hlm
            have gl : GoodW lst.p := HUy.out.good HC0.out hlm
            have gy : GoodW y.p := goodW_of (by rw [HY.out.2.2.2.1]; exact HC0.out) HY.out.2.2.1
            have i1 := hl.2.1.its_len
            have i2 := HY.out.2.2.1.its_len
            have l1 := hl.2.2.2
            have l2 := HY.out.2.2.2.2.1
            have ke : y.p.ks = lst.p.ks := by rw [HY.out.2.2.2.1, hl.2.2.1]
            have HDO := Lib.hid (do_any hb w.heap.size now y stepN dA none dn dc 0 0 D [] wy HHy.out HYY.out (wcheck_of (by rw [HY.out.2.2.2.1]; exact HC0.out) HY.out.2.2.1) (by rw [HNW.out]; exact fun e => hsm e.symm) (by rw [HNW.out]; exact gl) gy (by rw [HNW.out]; exact encOk_of gl.sz gy.sz ke (by omega) (by omega) (by omega) (by omega)) (by rw [HNW.out]; exact encOk_of gy.sz gl.sz ke.symm (by omega) (by omega) (by omega) (by omega)) (by omega) HBy.out.size)
            have v0 : wy.cell? ⟨h12, 0, none⟩ = some (.slice y.kA y.kn y.kc) := hk12.cell 0
            have v1 : wy.cell? ⟨h12, 1, none⟩ = some (.slice y.gA y.gn y.gc) := hk12.cell 1
            have v2 : wy.cell? ⟨h12, 2, none⟩ = some (.slice y.iA y.im y.ic) := hk12.cell 2
            clear hk12 hl gl gy i1 i2 l1 l2 ke hsm
            unfold stepN at HDO
            go_wp2_with fail
            with_reducible refine (HDO.out).mono ?_
            clear HDO v0 v1 v2
            rintro e w7 ⟨y2, A2, c2, s, rfl, HH7, HKZ⟩
            have hk7 : Bk w7 h12 52 #[.slice y.kA y.kn y.kc, .slice y.gA y.gn y.gc, .slice y.iA y.im y.ic] := HKZ.out.kx.bk HK12.out (by decide)
            have HU7 : Hid (UI w7 w.heap.size (some ⟨b, o, none⟩) (dn + 1) ac Ws x0.p.ks i) := Lib.hid (HUy.out.keep HKZ.out.kx)
            have HY7 : Hid (WdY w7 0 y) := Lib.hid (HYY.out.keep (HKZ.out.kx.mono (Nat.zero_le _) (fun _ h => h)) (by decide) (by decide) (by decide) (by decide) (by decide))
            have HB7 : Hid (Below w.heap.size w w7) := Lib.hid (HBy.out.trans ((HKZ.out.toBelow HBy.out.size).mono (Nat.le_refl _)))
            have hw7 : w.heap.size ≤ w7.heap.size := HB7.out.size
            have v0 : w7.cell? ⟨h12, 0, none⟩ = some (.slice y.kA y.kn y.kc) := hk7.cell 0
            have v1 : w7.cell? ⟨h12, 1, none⟩ = some (.slice y.gA y.gn y.gc) := hk7.cell 1
            have v2 : w7.cell? ⟨h12, 2, none⟩ = some (.slice y.iA y.im y.ic) := hk7.cell 2
            clear hk7 HUy HHy HBy HYY HK12
            go_wp2_with
              (at_builtin
               go_must (refine wpList_append_one _ rfl (.tmp 65) (.tmp 67) _ rfl w.heap.size 52 iW (.agg #[.slice none 0 0, .slice none 0 0, .slice none 0 0]) 3 72 Try.underlying58 hiW hzW0 hzW1 hzW2 rfl (by decide) (.slice (some ⟨b, o, none⟩) (dn + 1) ac) (dn + 1) (wdCs Ws) rfl (HU7.out.own.alloc _) w7.heap.size 1 52 #[.slice y.kA y.kn y.kc, .slice y.gA y.gn y.gc, .slice y.iA y.im y.ic] rfl (Bk.new _ _ _) rfl ?c1 (dn + 1 + 1) rfl ?c2 ?c3 ?c4 ?_)
               case c1 => simp [Value.oneCell']
               case c2 => unfold maxLen; omega
               case c3 => omega
               case c4 => (simp; omega)
               intro g8 c8 w8 hown8 hg8 hat8)
            have hkx8 : Kx 0 [52] w7 w8 := ((Kx.refl (B := 0)).alloc _).grown (HU7.out.own.alloc _) hg8 (Nat.zero_le _) (by simp)
            have HB8 : Hid (Below w.heap.size w w8) := Lib.hid ((HB7.out.alloc hw7 _).grown hg8 (by simp; omega) (fun q hq => (HU7.out.own.lt q hq).1))
            have HU8 : Hid (UI w8 w.heap.size (some ⟨g8, 0, none⟩) (dn + 1 + 1) c8 (Ws ++ [y]) x0.p.ks (i + 1)) := Lib.hid (HU7.out.snoc hkx8 hown8 ⟨HY7.out, HY.out.2.2.1, HY.out.2.2.2.1, HY.out.2.2.2.2.1⟩)
            have HH8 : Hid (HistY w8 hb w.heap.size y2 A2 (dn + 1) c2 (D ++ [s]) none 0 0 []) := Lib.hid (HH7.out.1.keepx hkx8 (by decide) (by decide) (by decide) (by decide) (by decide) (by decide) (by decide) (by decide))
            have hwl : Ws.length = dn + 1 := HU7.out.len.symm
            have hdl : D.length = dn := by have := HP.out.1.len; omega
            have HP8 : Hid (HI (D ++ [s]) (Ws ++ [y]) ∧ ∃ z, (Ws ++ [y])[dn + 1]? = some z ∧ y2.p = z.p) := Lib.hid ⟨HP.out.1.snoc (a := lst) (by rw [hdl]; exact HLS.out) HH7.out.2.2.1 (by rw [HH7.out.2.2.2.1, HNW.out]) (by rw [HH7.out.2.2.2.2, HNW.out]), y, by rw [List.getElem?_append_right (by omega), hwl, Nat.sub_self]; rfl, HH7.out.2.1⟩
            clear hkx8 hown8 hg8 hat8 hwl hdl v0 v1 v2
            go_wp2_with fail
            go_roundw
            case rel => exact ⟨i + 1, dn + 1, c8, c2, some ⟨g8, 0, none⟩, A2, Ws ++ [y], y2, D ++ [s], by omega, by go_num, by go_num, by omega, HU8, HH8, HP8, HB8⟩
            case measure => simp [intOf]; omega
    · have hri : i = r := by omega
      subst hri
      have hdl : D.length = dn := by have := HP.out.1.len; have := HU.out.len; omega
      obtain ⟨b, o, rfl⟩ : ∃ b o, AA = some ⟨b, o, none⟩ := by
        obtain ⟨b, o, h, _⟩ := (Rd.of_own HU.out.own).2 (by omega)
        exact ⟨b, o, h⟩
      have HHI := Lib.hid HP.out.1
      have HH2 : Hid (HistY wo hb w.heap.size now dA dn dc (D.take dn) none 0 0 (D.drop dn).reverse) := Lib.hid (by
        rw [← hdl, List.take_length, List.drop_length]
        rw [hdl]
        exact HH.out)
      have HZ2 : Hid (∃ z, Ws[dn]? = some z ∧ now.p = z.p) := Lib.hid HP.out.2
      have hq1 : IntKind.i64.wrap ((dn : Int) + 1 - 2) = (dn : Int) - 1 := by rw [IntKind.wrap_i64]; omega
      clear HH HP
      go_wp2_with fail
      go_loopw [13] (fun iv wr => ∃ (k gn dc gc : Nat) (dA gA : Option Addr) (now : Wd), k + gn = dn ∧ iv = .int .i64 ((k : Int) - 1) ∧ Hid (UI wr w.heap.size (some ⟨b, o, none⟩) (dn + 1) ac Ws x0.p.ks i) ∧ Hid (HistY wr hb w.heap.size now dA k dc (D.take k) gA gn gc (D.drop k).reverse) ∧ Hid (∃ z, Ws[k]? = some z ∧ now.p = z.p) ∧ Hid (Below w.heap.size w wr)) (fun iv _ => (intOf iv + 1).toNat)
      case atStart => exact ⟨dn, 0, dc, 0, dA, none, now, rfl, by go_num, HU, HH2, HZ2, HB⟩
      case round =>
        clear HU HH2 HZ2 HB hq1
        obtain ⟨k, gn, dc, gc, dA, gA, now, hkg, rfl, HU, HH, HZ, HB⟩ := hrel
        obtain ⟨wp, rfl⟩ : ∃ z, z = wr := ⟨_, rfl⟩
        have hwp : w.heap.size ≤ wp.heap.size := HB.out.size
        rcases Nat.eq_zero_or_pos k with rfl | hk0
        · have hgd : gn = dn := by omega
          rw [hgd] at HH
          have hcp := own_cap2 HU.out.own
          clear hkg
          go_upto_region 21 with fail
          go_cut [99, 100, 101] from 98 to 98 (fun sv nv uv wx => ∃ (A9 : Option Addr) (c9 : Nat), sv = .slice A9 dn c9 ∧ nv = .int .i64 dn ∧ uv = .int .i64 0 ∧ wx = wp ∧ (1 ≤ dn → A9 = some ⟨b, o + 3, none⟩))
          case first =>
            rcases Nat.eq_or_lt_of_le (show 1 ≤ ac by omega) with h1 | h1
            · obtain rfl : dn = 0 := by omega
              subst h1
              go_wp2_with fail
              go_meet
              case rel => exact ⟨_, _, rfl, rfl, rfl, rfl, fun h => absurd h (by omega)⟩
            · go_wp2_with fail
              go_meet
              case rel => exact ⟨_, _, rfl, rfl, rfl, rfl, fun h => rfl⟩
          case rest =>
            obtain ⟨A9, c9, rfl, rfl, rfl, hwc, hA9⟩ := hcut
            rw [hwc]
            clear hwc hcp hgd
            go_wp2_with fail
            go_loopw [101] (fun iv wr => ∃ (k gn dc gc : Nat) (dA gA : Option Addr) (now : Wd), k + gn = dn ∧ iv = .int .i64 (k : Int) ∧ Hid (UI wr w.heap.size (some ⟨b, o, none⟩) (dn + 1) ac Ws x0.p.ks i) ∧ Hid (HistY wr hb w.heap.size now dA k dc (D.take k) gA gn gc (D.drop k).reverse) ∧ Hid (∃ z, Ws[k]? = some z ∧ now.p = z.p) ∧ Hid (Below w.heap.size w wr)) (fun iv _ => dn - (intOf iv).toNat)
            case atStart => exact ⟨0, dn, dc, gc, dA, gA, now, by omega, rfl, HU, HH, HZ, HB⟩
            case round =>
              clear HU HH HZ HB hwp
              obtain ⟨k, gn, dc, gc, dA, gA, now, hkg, rfl, HU, HH, HZ, HB⟩ := hrel
              obtain ⟨wq, rfl⟩ : ∃ z, z = wr := ⟨_, rfl⟩
              have hwp : w.heap.size ≤ wq.heap.size := HB.out.size
              rcases Nat.eq_zero_or_pos gn with rfl | hg0
              · obtain rfl : k = dn := by omega
                have HRN := Lib.hid (redo_none hb now _ gA gc wq HH.out.bk)
                go_wp2_with fail
                with_reducible refine (HRN.out).mono ?_
                rintro e w9 ⟨rfl, rfl⟩
                go_wp2_with fail
                go_ret
                exact ⟨rfl, HB.out⟩
              · obtain ⟨gn, rfl⟩ : ∃ j, gn = j + 1 := ⟨gn - 1, by omega⟩
                obtain ⟨s, a, z, t1, t2, hnm, ha, hz, hob, hbb⟩ := HHI.out.at_ (k := k) (by omega)
                obtain ⟨a', ha', hna⟩ := HZ.out
                have haa : a' = a := by rw [ha] at ha'; injection ha' with h; exact h.symm
                subst haa
                have ma := List.mem_of_getElem? ha
                have mz := List.mem_of_getElem? hz
                obtain rfl := hA9 (by omega)
                obtain ⟨b', o', e', hbk, q0, q1, q2⟩ := (Rd.of_own HU.out.own).wd (k := k + 1) (by omega) hz
                injection e' with e'
                injection e' with e1 e2
                subst e1 e2
                rw [show o + (k + 1) * 3 = o + 3 + k * 3 by omega] at q0 q1 q2
                obtain ⟨W1, hW1⟩ : ∃ W1, W1 = wq.alloc (.cells #[.slice z.kA z.kn z.kc, .slice z.gA z.gn z.gc, .slice z.iA z.im z.ic] 52) := ⟨_, rfl⟩
                have hb1 : Below wq.heap.size wq W1 := by rw [hW1]; exact Below.al (Below.refl _ _) _
                have hk17 : Bk W1 wq.heap.size 52 #[.slice z.kA z.kn z.kc, .slice z.gA z.gn z.gc, .slice z.iA z.im z.ic] := by rw [hW1]; exact Bk.new _ _ _
                obtain ⟨h17, hh17⟩ : ∃ h17, h17 = wq.heap.size := ⟨_, rfl⟩
                rw [← hh17] at hk17
                have HU1 : Hid (UI W1 w.heap.size (some ⟨b, o, none⟩) (dn + 1) ac Ws x0.p.ks i) := Lib.hid (HU.out.keep (B := 0) (Kx.of_below hb1))
                have hw1 : w.heap.size ≤ W1.heap.size := by have := hb1.size; omega
                have HB1 : Hid (Below w.heap.size w W1) := Lib.hid (HB.out.trans (hb1.mono hwp))
                have HRE := Lib.hid (redo_any hb w.heap.size now z.p s dA gA k dc gn gc (D.take k) (D.drop (k + 1)).reverse W1 (by rw [← t2]; exact HH.out.below hb1) (by rw [hna]; exact HU.out.good HC0.out ma) (HU.out.good HC0.out mz) (by rw [hna]; exact HU.out.enc (by omega) HC0.out ma mz) (by rw [hna]; exact hob) ⟨by omega, by omega⟩ hw1)
                rw [hnm, ← t1] at HRE
                unfold stepN at HRE
                have HA := Lib.hid (And.intro hz mz)
                have HW1 := Lib.hid hW1
                have HK17 := Lib.hid hk17
                have HH17 := Lib.hid hh17
                have c0 : W1.cell? ⟨h17, 0, none⟩ = some (.slice z.kA z.kn z.kc) := hk17.cell 0
                have c1 : W1.cell? ⟨h17, 1, none⟩ = some (.slice z.gA z.gn z.gc) := hk17.cell 1
                have c2 : W1.cell? ⟨h17, 2, none⟩ = some (.slice z.iA z.im z.ic) := hk17.cell 2
                have hq3 : (k : Int) < (dn : Int) := by omega
                clear HZ t1 t2 hnm ha hz hob hbb ha' hna ma mz HH hW1 hk17 hh17 hb1
                go_upto_region 24 with fail
                rw [← HW1.out, ← HH17.out]
                clear HW1 HH17 q0 q1 q2
                go_wp2_with fail
                with_reducible refine (HRE.out).mono ?_
                clear HRE c0 c1 c2
                rintro e w7 ⟨y, A2, c2, rfl, HH7, HKZ⟩
                have HU7 : Hid (UI w7 w.heap.size (some ⟨b, o, none⟩) (dn + 1) ac Ws x0.p.ks i) := Lib.hid (HU1.out.keep HKZ.out.kx)
                have HB7 : Hid (Below w.heap.size w w7) := Lib.hid (HB1.out.trans ((HKZ.out.toBelow hw1).mono (Nat.le_refl _)))
                have hw7 : w.heap.size ≤ w7.heap.size := HB7.out.size
                have hk7 : Bk w7 h17 52 #[.slice z.kA z.kn z.kc, .slice z.gA z.gn z.gc, .slice z.iA z.im z.ic] := HKZ.out.kx.bk HK17.out (by decide)
                have s7 : w7.cell? ⟨h17, 0, none⟩ = some (.slice z.kA z.kn z.kc) ∧ w7.cell? ⟨h17, 1, none⟩ = some (.slice z.gA z.gn z.gc) ∧ w7.cell? ⟨h17, 2, none⟩ = some (.slice z.iA z.im z.ic) := ⟨hk7.cell 0, hk7.cell 1, hk7.cell 2⟩
                have HS7 : Hid (∀ wz, Below w7.heap.size w7 wz → wz.cell? ⟨h17, 0, none⟩ = some (.slice z.kA z.kn z.kc) ∧ wz.cell? ⟨h17, 1, none⟩ = some (.slice z.gA z.gn z.gc) ∧ wz.cell? ⟨h17, 2, none⟩ = some (.slice z.iA z.im z.ic)) := Lib.hid (fun wz hbz => ⟨(bcell hbz h17 hk7.lt _).trans s7.1, (bcell hbz h17 hk7.lt _).trans s7.2.1, (bcell hbz h17 hk7.lt _).trans s7.2.2⟩)
                have HNO : Hid (∀ wz, Below w7.heap.size w7 wz → Calls Try.prog 86 #[.pointer (some ⟨hb, 0, none⟩)] wz fun e w' => ∃ y4 : Wd, e = .returned (.agg #[.slice y4.kA y4.kn y4.kc, .slice y4.gA y4.gn y4.gc, .slice y4.iA y4.im y4.ic]) ∧ Hid (WdY w' 0 y4 ∧ y4.p = z.p) ∧ Below wz.heap.size wz w') := Lib.hid (fun wz hbz => by
                  have := now_any hb y _ _ wz (HH7.out.1.below hbz).bk (HH7.out.1.below hbz).x (by rw [HH7.out.2]; exact (HU.out.good HC0.out HA.out.2).sz)
                  rw [HH7.out.2] at this
                  exact this)
                have HSM : Hid (∀ (y4 : Wd) wz, WdY wz 0 y4 → y4.p = z.p → Below w7.heap.size w7 wz → Calls Try.prog 38 #[.agg #[.slice y4.kA y4.kn y4.kc, .slice y4.gA y4.gn y4.gc, .slice y4.iA y4.im y4.ic], .agg #[.slice z.kA z.kn z.kc, .slice z.gA z.gn z.gc, .slice z.iA z.im z.ic]] wz fun e w' => e = .returned (.bool true) ∧ Below wz.heap.size wz w') := Lib.hid (fun y4 wz hy4 hp4 hbz => by
                  have := wsame_any (x := y4) (y := z) hy4.ok_ ((HU7.out.y z HA.out.2).1.below hbz).ok_
                  rw [decide_eq_true hp4] at this
                  exact this)
                clear hk7
                go_upto_if 122 with fail
                go_cut [122] from 110 to 121 (fun bv wx => bv = .bool false ∧ Hid (Below w7.heap.size w7 wx))
                case first =>
                  refine wp_region_H (S := fun wz => wz.cell? ⟨h17, 0, none⟩ = some (.slice z.kA z.kn z.kc) ∧ wz.cell? ⟨h17, 1, none⟩ = some (.slice z.gA z.gn z.gc) ∧ wz.cell? ⟨h17, 2, none⟩ = some (.slice z.iA z.im z.ic)) (by kernel_rfl) ?_
                  refine wpAnyH_val (i := 0) (v := .int .i64 0) (d := some 110) rfl rfl (by kernel_rfl) (by kernel_rfl) (by kernel_rfl) (fun _ _ _ h => h) (Or.inl ⟨by rfl, fun w hS => by (obtain ⟨h0, h1, h2⟩ := hS; go_simp)⟩) s7 ?_
                  (try simp only [Act.put, List.setIfInBounds_toArray, List.set_cons_zero, List.set_cons_succ])
                  refine wpAnyH_val (i := 1) (v := .bool false) (d := some 111) rfl rfl (by kernel_rfl) (by kernel_rfl) (by kernel_rfl) (fun _ _ _ h => h) (Or.inl ⟨by rfl, fun w hS => by (obtain ⟨h0, h1, h2⟩ := hS; go_simp)⟩) s7 ?_
                  (try simp only [Act.put, List.setIfInBounds_toArray, List.set_cons_zero, List.set_cons_succ])
                  refine wpAnyH_val (i := 2) (v := .bool false) (d := some 112) rfl rfl (by kernel_rfl) (by kernel_rfl) (by kernel_rfl) (fun _ _ _ h => h) (Or.inl ⟨by rfl, fun w hS => by (obtain ⟨h0, h1, h2⟩ := hS; go_simp)⟩) s7 ?_
                  (try simp only [Act.put, List.setIfInBounds_toArray, List.set_cons_zero, List.set_cons_succ])
                  refine wpAnyH_val (i := 3) (v := .string ⟨#[115, 116, 101, 112]⟩) (d := some 113) rfl rfl (by kernel_rfl) (by kernel_rfl) (by kernel_rfl) (fun _ _ _ h => h) (Or.inl ⟨by rfl, fun w hS => by (obtain ⟨h0, h1, h2⟩ := hS; go_simp)⟩) s7 ?_
                  (try simp only [Act.put, List.setIfInBounds_toArray, List.set_cons_zero, List.set_cons_succ])
                  refine wpAnyH_val (i := 4) (v := .bool false) (d := some 114) rfl rfl (by kernel_rfl) (by kernel_rfl) (by kernel_rfl) (fun _ _ _ h => h) (Or.inl ⟨by rfl, fun w hS => by (obtain ⟨h0, h1, h2⟩ := hS; go_simp)⟩) s7 ?_
                  (try simp only [Act.put, List.setIfInBounds_toArray, List.set_cons_zero, List.set_cons_succ])
                  refine wpAnyH_val (i := 5) (v := .bool false) (d := some 115) rfl rfl (by kernel_rfl) (by kernel_rfl) (by kernel_rfl) (fun _ _ _ h => h) (Or.inl ⟨by rfl, fun w hS => by (obtain ⟨h0, h1, h2⟩ := hS; go_simp)⟩) s7 ?_
                  (try simp only [Act.put, List.setIfInBounds_toArray, List.set_cons_zero, List.set_cons_succ])
                  refine wpAnyH_val (i := 6) (v := .bool false) (d := some 116) rfl rfl (by kernel_rfl) (by kernel_rfl) (by kernel_rfl) (fun _ _ _ h => h) (Or.inl ⟨by rfl, fun w hS => by (obtain ⟨h0, h1, h2⟩ := hS; go_simp)⟩) s7 ?_
                  (try simp only [Act.put, List.setIfInBounds_toArray, List.set_cons_zero, List.set_cons_succ])
                  refine wpAnyH_val (i := 7) (v := .pointer (some ⟨hb, 0, none⟩)) (d := some 117) rfl rfl (by kernel_rfl) (by kernel_rfl) (by kernel_rfl) (fun _ _ _ h => h) (Or.inl ⟨by rfl, fun w hS => by (obtain ⟨h0, h1, h2⟩ := hS; go_simp)⟩) s7 ?_
                  (try simp only [Act.put, List.setIfInBounds_toArray, List.set_cons_zero, List.set_cons_succ])
                  refine wpAnyH_val (i := 9) (v := .agg #[.slice z.kA z.kn z.kc, .slice z.gA z.gn z.gc, .slice z.iA z.im z.ic]) (d := some 119) rfl rfl (by kernel_rfl) (by kernel_rfl) (by kernel_rfl) (fun _ _ _ h => h) (Or.inl ⟨by rfl, fun w hS => by (obtain ⟨h0, h1, h2⟩ := hS; go_simp)⟩) s7 ?_
                  (try simp only [Act.put, List.setIfInBounds_toArray, List.set_cons_zero, List.set_cons_succ])
                  refine wpAnyH_oneW (i := 8) rfl (by kernel_rfl) (by rfl) ?_
                  go_simp
                  go_at_call 86
                  (with_reducible refine (HNO.out _ ?hb).mono ?_)
                  case hb => (repeat' first | exact Below.refl _ _ | refine Below.drew ?_)
                  rintro e w8 ⟨y4, rfl, HY4, hb8⟩
                  have hB8 : Below w7.heap.size w7 w8 := Below.tr (by repeat' first | exact Below.refl _ _ | refine Below.drew ?_) hb8
                  refine And.intro (HS7.out _ hB8) ?_
                  (try simp only [Act.put, List.setIfInBounds_toArray, List.set_cons_zero, List.set_cons_succ])
                  refine wpAnyH_oneW (i := 10) rfl (by kernel_rfl) (by rfl) ?_
                  go_simp
                  go_at_call 38
                  (with_reducible refine (HSM.out y4 _ HY4.out.1 HY4.out.2 ?hb).mono ?_)
                  case hb => (repeat' first | exact hB8 | refine Below.drew ?_)
                  rintro e w9 ⟨rfl, hb9⟩
                  have hB9 : Below w7.heap.size w7 w9 := Below.tr (by repeat' first | exact hB8 | refine Below.drew ?_) hb9
                  have s8 := HS7.out _ hB9
                  refine And.intro s8 ?_
                  (try simp only [Act.put, List.setIfInBounds_toArray, List.set_cons_zero, List.set_cons_succ])
                  refine wpAnyH_val (i := 11) (v := .bool false) (d := some 121) rfl rfl (by kernel_rfl) (by kernel_rfl) (by kernel_rfl) (fun _ _ _ h => h) (Or.inl ⟨by rfl, fun w hS => by (obtain ⟨h0, h1, h2⟩ := hS; go_simp)⟩) s8 ?_
                  (try simp only [Act.put, List.setIfInBounds_toArray, List.set_cons_zero, List.set_cons_succ])
                  refine wpAnyH_val (i := 12) (v := .bool false) (d := some 122) rfl rfl (by kernel_rfl) (by kernel_rfl) (by kernel_rfl) (fun _ _ _ h => h) (Or.inl ⟨by rfl, fun w hS => by (obtain ⟨h0, h1, h2⟩ := hS; go_simp)⟩) s8 ?_
                  (try simp only [Act.put, List.setIfInBounds_toArray, List.set_cons_zero, List.set_cons_succ])
                  refine wpAnyH_done (by kernel_rfl) ?_ _
                  go_wp2_with fail
                  go_meet
                  case rel => exact ⟨rfl, Lib.hid hB9⟩
                case rest =>
                  obtain ⟨rfl, HBc⟩ := hcut
                  obtain ⟨wq2, rfl⟩ : ∃ z, z = wc := ⟨_, rfl⟩
                  have HUq : Hid (UI wq2 w.heap.size (some ⟨b, o, none⟩) (dn + 1) ac Ws x0.p.ks i) := Lib.hid (HU7.out.keep (B := 0) (Kx.of_below HBc.out))
                  have HHq : Hid (HistY wq2 hb w.heap.size y A2 (k + 1) c2 (D.take (k + 1)) gA gn gn (D.drop (k + 1)).reverse) := Lib.hid (HH7.out.1.below HBc.out)
                  have HZq : Hid (∃ z, Ws[k + 1]? = some z ∧ y.p = z.p) := Lib.hid ⟨z, HA.out.1, HH7.out.2⟩
                  have HBq : Hid (Below w.heap.size w wq2) := Lib.hid (HB7.out.trans (HBc.out.mono hw7))
                  clear s7 HS7 HNO HSM HU7 HH7 HKZ HB7 HBc hq3
                  go_wp2_with fail
                  go_roundw
                  case rel =>
                    (repeat' apply Exists.intro)
                    exact ⟨⟨k + 1, gn, c2, gn, A2, gA, y, by omega, by go_num, HUq, HHq, HZq, HBq⟩, rfl⟩
                  case measure => simp [intOf] <;> omega
        · obtain ⟨k, rfl⟩ : ∃ j, k = j + 1 := ⟨k - 1, by omega⟩
          obtain ⟨s, a, z, t1, t2, hnm, ha, hz, hob, hbb⟩ := HHI.out.at_ (k := k) (by omega)
          obtain ⟨z', hz', hnz⟩ := HZ.out
          have hzz : z' = z := by rw [hz] at hz'; injection hz' with h; exact h.symm
          subst hzz
          have ma := List.mem_of_getElem? ha
          have mz := List.mem_of_getElem? hz
          have HUN := Lib.hid (undo_any hb w.heap.size now a.p s dA gA k dc gn gc (D.take k) (D.drop (k + 1)).reverse wp (by rw [← t1]; exact HH.out) (by rw [hnz]; exact HU.out.good HC0.out mz) (HU.out.good HC0.out ma) (by rw [hnz]; exact HU.out.enc (by omega) HC0.out mz ma) (by rw [hnz]; exact hbb) ⟨by omega, by omega⟩ hwp)
          rw [hnm, ← t2] at HUN
          unfold stepN at HUN
          have HA := Lib.hid (And.intro ha ma)
          clear HZ t1 t2 hnm ha hz hob hbb hz' hnz ma mz HH
          have hq2 : (0 : Int) ≤ ((k + 1 : Nat) : Int) - 1 := by omega
          have hq3 : (k : Int) < (dn : Int) + 1 := by omega
          go_wp2_with fail
          with_reducible refine (HUN.out).mono ?_
          clear HUN
          rintro e w7 ⟨y, A2, c2, rfl, HH7, HKZ⟩
          have HU7 : Hid (UI w7 w.heap.size (some ⟨b, o, none⟩) (dn + 1) ac Ws x0.p.ks i) := Lib.hid (HU.out.keep HKZ.out.kx)
          have HB7 : Hid (Below w.heap.size w w7) := Lib.hid (HB.out.trans ((HKZ.out.toBelow hwp).mono (Nat.le_refl _)))
          have hw7 : w.heap.size ≤ w7.heap.size := HB7.out.size
          obtain ⟨b', o', e', hbb, q0, q1, q2⟩ := (Rd.of_own HU7.out.own).wd (k := k) (by omega) HA.out.1
          injection e' with e'
          injection e' with e1 e2
          subst e1 e2
          have s7 : w7.cell? ⟨b, o + k * 3, none⟩ = some (.slice a.kA a.kn a.kc) ∧ w7.cell? ⟨b, o + k * 3 + 1, none⟩ = some (.slice a.gA a.gn a.gc) ∧ w7.cell? ⟨b, o + k * 3 + 2, none⟩ = some (.slice a.iA a.im a.ic) := ⟨q0, q1, q2⟩
          have HS7 : Hid (∀ wz, Below w7.heap.size w7 wz → wz.cell? ⟨b, o + k * 3, none⟩ = some (.slice a.kA a.kn a.kc) ∧ wz.cell? ⟨b, o + k * 3 + 1, none⟩ = some (.slice a.gA a.gn a.gc) ∧ wz.cell? ⟨b, o + k * 3 + 2, none⟩ = some (.slice a.iA a.im a.ic)) := Lib.hid (fun wz hbz => ⟨(bcell hbz b hbb _).trans q0, (bcell hbz b hbb _).trans q1, (bcell hbz b hbb _).trans q2⟩)
          have HNO : Hid (∀ wz, Below w7.heap.size w7 wz → Calls Try.prog 86 #[.pointer (some ⟨hb, 0, none⟩)] wz fun e w' => ∃ y4 : Wd, e = .returned (.agg #[.slice y4.kA y4.kn y4.kc, .slice y4.gA y4.gn y4.gc, .slice y4.iA y4.im y4.ic]) ∧ Hid (WdY w' 0 y4 ∧ y4.p = a.p) ∧ Below wz.heap.size wz w') := Lib.hid (fun wz hbz => by
            have := now_any hb y _ _ wz (HH7.out.1.below hbz).bk (HH7.out.1.below hbz).x (by rw [HH7.out.2]; exact (HU.out.good HC0.out HA.out.2).sz)
            rw [HH7.out.2] at this
            exact this)
          have HSM : Hid (∀ (y4 : Wd) wz, WdY wz 0 y4 → y4.p = a.p → Below w7.heap.size w7 wz → Calls Try.prog 38 #[.agg #[.slice y4.kA y4.kn y4.kc, .slice y4.gA y4.gn y4.gc, .slice y4.iA y4.im y4.ic], .agg #[.slice a.kA a.kn a.kc, .slice a.gA a.gn a.gc, .slice a.iA a.im a.ic]] wz fun e w' => e = .returned (.bool true) ∧ Below wz.heap.size wz w') := Lib.hid (fun y4 wz hy4 hp4 hbz => by
            have := wsame_any (x := y4) (y := a) hy4.ok_ ((HU7.out.y a HA.out.2).1.below hbz).ok_
            rw [decide_eq_true hp4] at this
            exact this)
          clear q0 q1 q2
          go_upto_if 97 with fail
          go_cut [97] from 82 to 96 (fun bv wx => bv = .bool false ∧ Hid (Below w7.heap.size w7 wx))
          case first =>
            refine wp_region_H (S := fun wz => wz.cell? ⟨b, o + k * 3, none⟩ = some (.slice a.kA a.kn a.kc) ∧ wz.cell? ⟨b, o + k * 3 + 1, none⟩ = some (.slice a.gA a.gn a.gc) ∧ wz.cell? ⟨b, o + k * 3 + 2, none⟩ = some (.slice a.iA a.im a.ic)) (by kernel_rfl) ?_
            refine wpAnyH_val (i := 0) (v := .int .i64 0) (d := some 82) rfl rfl (by kernel_rfl) (by kernel_rfl) (by kernel_rfl) (fun _ _ _ h => h) (Or.inl ⟨by rfl, fun w hS => by (obtain ⟨h0, h1, h2⟩ := hS; go_simp)⟩) s7 ?_
            (try simp only [Act.put, List.setIfInBounds_toArray, List.set_cons_zero, List.set_cons_succ])
            refine wpAnyH_val (i := 1) (v := .bool false) (d := some 83) rfl rfl (by kernel_rfl) (by kernel_rfl) (by kernel_rfl) (fun _ _ _ h => h) (Or.inl ⟨by rfl, fun w hS => by (obtain ⟨h0, h1, h2⟩ := hS; go_simp)⟩) s7 ?_
            (try simp only [Act.put, List.setIfInBounds_toArray, List.set_cons_zero, List.set_cons_succ])
            refine wpAnyH_val (i := 2) (v := .bool false) (d := some 84) rfl rfl (by kernel_rfl) (by kernel_rfl) (by kernel_rfl) (fun _ _ _ h => h) (Or.inl ⟨by rfl, fun w hS => by (obtain ⟨h0, h1, h2⟩ := hS; go_simp)⟩) s7 ?_
            (try simp only [Act.put, List.setIfInBounds_toArray, List.set_cons_zero, List.set_cons_succ])
            refine wpAnyH_val (i := 3) (v := .string ⟨#[115, 116, 101, 112]⟩) (d := some 85) rfl rfl (by kernel_rfl) (by kernel_rfl) (by kernel_rfl) (fun _ _ _ h => h) (Or.inl ⟨by rfl, fun w hS => by (obtain ⟨h0, h1, h2⟩ := hS; go_simp)⟩) s7 ?_
            (try simp only [Act.put, List.setIfInBounds_toArray, List.set_cons_zero, List.set_cons_succ])
            refine wpAnyH_val (i := 4) (v := .bool false) (d := some 86) rfl rfl (by kernel_rfl) (by kernel_rfl) (by kernel_rfl) (fun _ _ _ h => h) (Or.inl ⟨by rfl, fun w hS => by (obtain ⟨h0, h1, h2⟩ := hS; go_simp)⟩) s7 ?_
            (try simp only [Act.put, List.setIfInBounds_toArray, List.set_cons_zero, List.set_cons_succ])
            refine wpAnyH_val (i := 5) (v := .bool false) (d := some 87) rfl rfl (by kernel_rfl) (by kernel_rfl) (by kernel_rfl) (fun _ _ _ h => h) (Or.inl ⟨by rfl, fun w hS => by (obtain ⟨h0, h1, h2⟩ := hS; go_simp)⟩) s7 ?_
            (try simp only [Act.put, List.setIfInBounds_toArray, List.set_cons_zero, List.set_cons_succ])
            refine wpAnyH_val (i := 6) (v := .bool false) (d := some 88) rfl rfl (by kernel_rfl) (by kernel_rfl) (by kernel_rfl) (fun _ _ _ h => h) (Or.inl ⟨by rfl, fun w hS => by (obtain ⟨h0, h1, h2⟩ := hS; go_simp)⟩) s7 ?_
            (try simp only [Act.put, List.setIfInBounds_toArray, List.set_cons_zero, List.set_cons_succ])
            refine wpAnyH_val (i := 7) (v := .pointer (some ⟨hb, 0, none⟩)) (d := some 89) rfl rfl (by kernel_rfl) (by kernel_rfl) (by kernel_rfl) (fun _ _ _ h => h) (Or.inl ⟨by rfl, fun w hS => by (obtain ⟨h0, h1, h2⟩ := hS; go_simp)⟩) s7 ?_
            (try simp only [Act.put, List.setIfInBounds_toArray, List.set_cons_zero, List.set_cons_succ])
            refine wpAnyH_val (i := 9) (v := .slice (some ⟨b, o, none⟩) (dn + 1) ac) (d := some 91) rfl rfl (by kernel_rfl) (by kernel_rfl) (by kernel_rfl) (fun _ _ _ h => h) (Or.inl ⟨by rfl, fun w hS => by (obtain ⟨h0, h1, h2⟩ := hS; go_simp)⟩) s7 ?_
            (try simp only [Act.put, List.setIfInBounds_toArray, List.set_cons_zero, List.set_cons_succ])
            refine wpAnyH_val (i := 10) (v := .int .i64 k) (d := some 92) rfl rfl (by kernel_rfl) (by kernel_rfl) (by kernel_rfl) (fun _ _ _ h => h) (Or.inl ⟨by rfl, fun w hS => by (obtain ⟨h0, h1, h2⟩ := hS; go_simp)⟩) s7 ?_
            (try simp only [Act.put, List.setIfInBounds_toArray, List.set_cons_zero, List.set_cons_succ])
            refine wpAnyH_val (i := 11) (v := .pointer (some ⟨b, o + k * 3, none⟩)) (d := some 93) rfl rfl (by kernel_rfl) (by kernel_rfl) (by kernel_rfl) (fun _ _ _ h => h) (Or.inl ⟨by rfl, fun w hS => by (obtain ⟨h0, h1, h2⟩ := hS; go_simp)⟩) s7 ?_
            (try simp only [Act.put, List.setIfInBounds_toArray, List.set_cons_zero, List.set_cons_succ])
            refine wpAnyH_val (i := 12) (v := .agg #[.slice a.kA a.kn a.kc, .slice a.gA a.gn a.gc, .slice a.iA a.im a.ic]) (d := some 94) rfl rfl (by kernel_rfl) (by kernel_rfl) (by kernel_rfl) (fun _ _ _ h => h) (Or.inl ⟨by rfl, fun w hS => by (obtain ⟨h0, h1, h2⟩ := hS; go_simp)⟩) s7 ?_
            (try simp only [Act.put, List.setIfInBounds_toArray, List.set_cons_zero, List.set_cons_succ])
            refine wpAnyH_oneW (i := 8) rfl (by kernel_rfl) (by rfl) ?_
            go_simp
            go_at_call 86
            (with_reducible refine (HNO.out _ ?hb).mono ?_)
            case hb => (repeat' first | exact Below.refl _ _ | refine Below.drew ?_)
            rintro e w8 ⟨y4, rfl, HY4, hb8⟩
            have hB8 : Below w7.heap.size w7 w8 := Below.tr (by repeat' first | exact Below.refl _ _ | refine Below.drew ?_) hb8
            refine And.intro (HS7.out _ hB8) ?_
            (try simp only [Act.put, List.setIfInBounds_toArray, List.set_cons_zero, List.set_cons_succ])
            refine wpAnyH_oneW (i := 13) rfl (by kernel_rfl) (by rfl) ?_
            go_simp
            go_at_call 38
            (with_reducible refine (HSM.out y4 _ HY4.out.1 HY4.out.2 ?hb).mono ?_)
            case hb => (repeat' first | exact hB8 | refine Below.drew ?_)
            rintro e w9 ⟨rfl, hb9⟩
            have hB9 : Below w7.heap.size w7 w9 := Below.tr (by repeat' first | exact hB8 | refine Below.drew ?_) hb9
            have s8 := HS7.out _ hB9
            refine And.intro s8 ?_
            (try simp only [Act.put, List.setIfInBounds_toArray, List.set_cons_zero, List.set_cons_succ])
            refine wpAnyH_val (i := 14) (v := .bool false) (d := some 96) rfl rfl (by kernel_rfl) (by kernel_rfl) (by kernel_rfl) (fun _ _ _ h => h) (Or.inl ⟨by rfl, fun w hS => by (obtain ⟨h0, h1, h2⟩ := hS; go_simp)⟩) s8 ?_
            (try simp only [Act.put, List.setIfInBounds_toArray, List.set_cons_zero, List.set_cons_succ])
            refine wpAnyH_val (i := 15) (v := .bool false) (d := some 97) rfl rfl (by kernel_rfl) (by kernel_rfl) (by kernel_rfl) (fun _ _ _ h => h) (Or.inl ⟨by rfl, fun w hS => by (obtain ⟨h0, h1, h2⟩ := hS; go_simp)⟩) s8 ?_
            (try simp only [Act.put, List.setIfInBounds_toArray, List.set_cons_zero, List.set_cons_succ])
            refine wpAnyH_done (by kernel_rfl) ?_ _
            go_wp2_with fail
            go_meet
            case rel => exact ⟨rfl, Lib.hid hB9⟩
          case rest =>
            obtain ⟨rfl, HBc⟩ := hcut
            obtain ⟨wq, rfl⟩ : ∃ z, z = wc := ⟨_, rfl⟩
            have HUq : Hid (UI wq w.heap.size (some ⟨b, o, none⟩) (dn + 1) ac Ws x0.p.ks i) := Lib.hid (HU7.out.keep (B := 0) (Kx.of_below HBc.out))
            have HHq : Hid (HistY wq hb w.heap.size y dA k k (D.take k) A2 (gn + 1) c2 (D.drop k).reverse) := Lib.hid (HH7.out.1.below HBc.out)
            have HZq : Hid (∃ z, Ws[k]? = some z ∧ y.p = z.p) := Lib.hid ⟨a, HA.out.1, HH7.out.2⟩
            have HBq : Hid (Below w.heap.size w wq) := Lib.hid (HB7.out.trans (HBc.out.mono hw7))
            clear s7 HS7 HNO HSM HU7 HH7 HKZ HB7 HBc hq2 hq3
            go_wp2_with fail
            go_roundw
            case rel => exact ⟨k, gn + 1, k, c2, dA, A2, y, by omega, by go_num, HUq, HHq, HZq, HBq⟩
            case measure => simp [intOf] <;> omega
end Go.Proofs.Ytnidcmhfbkdioaa
