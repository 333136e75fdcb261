/-
  Rows of worlds and of names, and a history, side by side; the pieces of the code of UndoSays; what Join and Do need of a round; Do at an equal world. Conditions: none of the code.
-/
import Derived.Test.YtnidcmhfbkdioaaXi
import Derived.Test.YtnidcmhfbkdioaaXl
import Derived.Test.YtnidcmhfbkdioaaXq
import Derived.Deep.CutRange
import Derived.Deep.RegionHeld3
import Derived.BigQuiet
namespace Go.Proofs.Ytnidcmhfbkdioaa
open Go.RowKit
set_option maxRecDepth 100000

/-! ### Xm -/
theorem T.infoWd : (Try.prog.info? 52).map (fun i => (i.zero, i.size, i.bytes)) = some (some (.agg #[.slice none 0 0, .slice none 0 0, .slice none 0 0]), 3, 72) := by kernel_rfl
def Wd.cs (x : Wd) : List Value := [.slice x.kA x.kn x.kc, .slice x.gA x.gn x.gc, .slice x.iA x.im x.ic]
def wdCs (l : List Wd) : List Value := l.flatMap Wd.cs
theorem wdCs_length (l : List Wd) : (wdCs l).length = l.length * 3 := by
  induction l with
  | nil => rfl
  | cons a l ih => rw [show wdCs (a :: l) = Wd.cs a ++ wdCs l by simp [wdCs], List.length_append, ih, List.length_cons]; simp [Wd.cs]; omega
theorem wdCs_get (l : List Wd) (k j : Nat) (f : Wd) (h : l[k]? = some f) (hj : j < 3) : (wdCs l)[k * 3 + j]? = (Wd.cs f)[j]? := by
  induction l generalizing k with
  | nil => simp at h
  | cons a l ih =>
    have e : wdCs (a :: l) = Wd.cs a ++ wdCs l := by simp [wdCs]
    rw [e]
    cases k with
    | zero =>
      have ea : a = f := by simpa using h
      subst ea
      rw [List.getElem?_append_left (by simp [Wd.cs]; omega)]
      congr 1; omega
    | succ k =>
      rw [List.getElem?_append_right (by simp [Wd.cs]; omega)]
      rw [show (k + 1) * 3 + j - (Wd.cs a).length = k * 3 + j by simp [Wd.cs]; omega]
      exact ih k (by simpa using h)
theorem wdCs_app (a b : List Wd) : wdCs (a ++ b) = wdCs a ++ wdCs b := by simp [wdCs]
theorem wdCs_one (x : Wd) : wdCs [x] = [.slice x.kA x.kn x.kc, .slice x.gA x.gn x.gc, .slice x.iA x.im x.ic] := by simp [wdCs, Wd.cs]
theorem Rd.wd {w : World} {B n : Nat} {A : Option Addr} {l : List Wd} {k : Nat} {f : Wd} (h : Rd w B 3 A n (wdCs l)) (hk : k < n) (hf : l[k]? = some f) :
    ∃ b o, A = some ⟨b, o, none⟩ ∧ b < B ∧ w.cell? ⟨b, o + k * 3, none⟩ = some (.slice f.kA f.kn f.kc) ∧ w.cell? ⟨b, o + k * 3 + 1, none⟩ = some (.slice f.gA f.gn f.gc) ∧ w.cell? ⟨b, o + k * 3 + 2, none⟩ = some (.slice f.iA f.im f.ic) := by
  obtain ⟨b, o, e, hb, hc⟩ := h.2 (by omega)
  exact ⟨b, o, e, hb, hc (k * 3) _ ((wdCs_get l k 0 f hf (by omega)).trans rfl), by rw [Nat.add_assoc]; exact hc (k * 3 + 1) _ ((wdCs_get l k 1 f hf (by omega)).trans rfl), by rw [Nat.add_assoc]; exact hc (k * 3 + 2) _ ((wdCs_get l k 2 f hf (by omega)).trans rfl)⟩
theorem wcheck_of {p : Wv Kp2} (h0 : checkF p.ks = 0) (h : VW holdK p) : wcheckF p = 0 := check_of h0 h

section
variable {P : Program} {ops : Array Oper} {Q : Exit → Act → World → Prop} {md : Region.Mode} {S : World → Prop}
theorem wpAnyH_val {i : Nat} {oi : Oper} {d : Option Tmp} {v : Value} {fuel : Nat} {listed : Array Bool} {a : Act} {w : World} (hi : ops[i]? = some oi) (hd : oi.dst = d)
    (hs : Region.noSelect ops = true) (hf : Region.free md ops listed i = true) (hr : (Region.ready md ops listed).contains i = true)
    (hQ : ∀ c a w, Q (.panic c) (a.put d v) w → Q (.panic c) a w) (hy : YieldsIf P ops S oi v a) (hS : S w)
    (h : wpAnyH P md ops Q S fuel (listed.setIfInBounds i true) (a.put d v) w) : wpAnyH P md ops Q S (fuel + 1) listed a w := by
  subst hd
  exact wpAnyH_take hi hs hf hr hQ hy hS h
theorem wpAnyH_oneW {i : Nat} {oi : Oper} {fuel : Nat} {listed : Array Bool} {a : Act} {w : World} (hi : ops[i]? = some oi) (hr : Region.ready md ops listed = [i]) (hg : Region.wanted oi (yielded ops a.tmps) = true)
    (h : oi.wp P a w (fun a' w' => S w' ∧ wpAnyH P md ops Q S fuel (listed.setIfInBounds i true) a' w') Q) : wpAnyH P md ops Q S (fuel + 1) listed a w :=
  wpAnyH_all hr (by simp) fun j hj => by
    have e : j = i := by simpa using hj
    subst e
    unfold wpOp
    simp only [hi, hg, if_true]
    exact .inl h
theorem wp_region_H {id : Nat} {a : Act} {w : World} (hm : P.follows .mixedOrders = true)
    (h : wpAnyH P .any ops Q S ops.size (Array.replicate ops.size false) a w.drew) : (Code.region id ops true).wp P Q a w :=
  wp_region_held hm h
end

/-- The worlds and the names that were made, each in a row of its own. -/
structure UL (w : World) (base : Nat) (AA : Option Addr) (m ac : Nat) (Ws : List Wd) (NA : Option Addr) (nc : Nat) (Ns : List ByteArray) (K0 : List Kp2) (i : Nat) : Prop where
  own : OwnO w base 52 3 AA m ac (wdCs Ws)
  nown : OwnO w base 9 1 NA m nc (strV Ns)
  y : ∀ x ∈ Ws, WdY w 0 x ∧ VW holdK x.p ∧ x.p.ks = K0 ∧ x.p.gens.length ≤ 11 + i
section
variable {w w' : World} {base m ac nc i B : Nat} {AA NA : Option Addr} {Ws : List Wd} {Ns : List ByteArray} {K0 : List Kp2} {F : List TypeId}
theorem UL.keep (h : UL w base AA m ac Ws NA nc Ns K0 i) (hq : Kx 0 F w w') (h52 : (52 : TypeId) ∉ F) (h9 : (9 : TypeId) ∉ F) (h3 : (3 : TypeId) ∉ F) (h166 : (166 : TypeId) ∉ F) (h147 : (147 : TypeId) ∉ F) (h66 : (66 : TypeId) ∉ F) (h63 : (63 : TypeId) ∉ F) : UL w' base AA m ac Ws NA nc Ns K0 i :=
  ⟨h.own.keep hq h52, h.nown.keep hq h9, fun x hx => ⟨(h.y x hx).1.keep hq h3 h166 h147 h66 h63, (h.y x hx).2⟩⟩
theorem UL.more (h : UL w base AA m ac Ws NA nc Ns K0 i) : UL w base AA m ac Ws NA nc Ns K0 (i + 1) := ⟨h.own, h.nown, fun x hx => ⟨(h.y x hx).1, (h.y x hx).2.1, (h.y x hx).2.2.1, by have := (h.y x hx).2.2.2; omega⟩⟩
theorem UL.good (h : UL w base AA m ac Ws NA nc Ns K0 i) (hc : checkF K0 = 0) {x : Wd} (hx : x ∈ Ws) : GoodW x.p := goodW_of (by rw [(h.y x hx).2.2.1]; exact hc) (h.y x hx).2.1
theorem UL.enc (h : UL w base AA m ac Ws NA nc Ns K0 i) (hi : i ≤ 121) (hc : checkF K0 = 0) (k4 : K0.length ≤ 4) (f3 : ∀ k ∈ K0, k.2.length ≤ 3) {x y : Wd} (hx : x ∈ Ws) (hy : y ∈ Ws) : encOk (FW x.p) (FW y.p) := by
  have hx1 := h.y x hx
  have hy1 := h.y y hy
  exact encOk_of4 (h.good hc hx).sz (h.good hc hy).sz hx1.2.1 hy1.2.1 (by rw [hx1.2.2.1, hy1.2.2.1]) (by rw [hx1.2.2.1]; exact k4) (by rw [hx1.2.2.1]; exact f3) (by omega) (by omega)
end

theorem HU.names {L : List StM} {Ps : List (Wv Kp2)} {Ns : List ByteArray} (h : HU L Ps Ns) : Ns.drop 1 = L.map StM.nm := by
  apply List.ext_getElem?
  intro j
  rw [List.getElem?_drop, List.getElem?_map]
  rcases Nat.lt_or_ge j L.length with hj | hj
  · obtain ⟨a, b, _, _, e, _⟩ := h.st j L[j] (List.getElem?_eq_getElem hj)
    rw [Nat.add_comm 1 j, e, List.getElem?_eq_getElem hj]; rfl
  · rw [List.getElem?_eq_none (by have := h.lenN; omega), List.getElem?_eq_none hj]; rfl
/-- A round's state: the rows of worlds and names, the history, and how they belong together. -/
structure US (w0 w : World) (hb : Nat) (AA NA : Option Addr) (L ac nc pa : Nat) (K0 : List Kp2) (i : Nat) (Ws : List Wd) (Ns : List ByteArray) (now : Wd) (dA gA : Option Addr) (dc gn gc : Nat) (D G : List StM) : Prop where
  ul : UL w w0.heap.size AA L ac Ws NA nc Ns K0 i
  hy : HistY w hb w0.heap.size now dA pa dc D gA gn gc G
  hu : HU (D ++ G.reverse) (Ws.map Wd.p) Ns
  nw : (Ws.map Wd.p)[pa]? = some now.p
  len : L = pa + gn + 1
  bnd : pa + gn ≤ 100
  bel : Below w0.heap.size w0 w
def USe (w0 w : World) (hb : Nat) (AA NA : Option Addr) (L ac nc pa : Nat) (K0 : List Kp2) (i : Nat) : Prop :=
  ∃ Ws Ns now dA gA dc gn gc D G, US w0 w hb AA NA L ac nc pa K0 i Ws Ns now dA gA dc gn gc D G
def KOk (K0 : List Kp2) : Prop := checkF K0 = 0 ∧ K0.length ≤ 4 ∧ ∀ k ∈ K0, k.2.length ≤ 3
section
variable {w0 w w' : World} {hb : Nat} {AA NA : Option Addr} {L ac nc pa : Nat} {K0 : List Kp2} {i : Nat} {Ws : List Wd} {Ns : List ByteArray} {now : Wd} {dA gA : Option Addr} {dc gn gc : Nat} {D G : List StM}
theorem US.step {y : Wd} {dA' gA' : Option Addr} {pa' dc' gn' gc' : Nat} {D' G' : List StM} (h : US w0 w hb AA NA L ac nc pa K0 i Ws Ns now dA gA dc gn gc D G) (hk : Kz w0.heap.size w w') (hy : HistY w' hb w0.heap.size y dA' pa' dc' D' gA' gn' gc' G') (hl : D' ++ G'.reverse = D ++ G.reverse) (hs : pa' + gn' = pa + gn) (hn : (Ws.map Wd.p)[pa']? = some y.p) :
    US w0 w' hb AA NA L ac nc pa' K0 (i + 1) Ws Ns y dA' gA' dc' gn' gc' D' G' :=
  ⟨(h.ul.keep (hk.kx.mono (Nat.zero_le _) (fun _ h => h)) (by decide) (by decide) (by decide) (by decide) (by decide) (by decide) (by decide)).more, hy, by rw [hl]; exact h.hu, hn, by rw [h.len]; omega, by have := h.bnd; omega, h.bel.trans (hk.toBelow h.bel.size)⟩
theorem US.below (h : US w0 w hb AA NA L ac nc pa K0 i Ws Ns now dA gA dc gn gc D G) (hk : Below w.heap.size w w') : US w0 w' hb AA NA L ac nc pa K0 (i + 1) Ws Ns now dA gA dc gn gc D G :=
  h.step ⟨hk.os, hk.tape, hk.output, Kx.of_below hk⟩ (h.hy.below hk) rfl rfl h.nw
theorem US.quiet (h : US w0 w hb AA NA L ac nc pa K0 i Ws Ns now dA gA dc gn gc D G) (hk : Below w.heap.size w w') : US w0 w' hb AA NA L ac nc pa K0 i Ws Ns now dA gA dc gn gc D G :=
  ⟨h.ul.keep (Kx.of_below (B := 0) (F := []) hk) (by simp) (by simp) (by simp) (by simp) (by simp) (by simp) (by simp), h.hy.below hk, h.hu, h.nw, h.len, h.bnd, h.bel.trans (hk.mono h.bel.size)⟩
theorem US.wlen (h : US w0 w hb AA NA L ac nc pa K0 i Ws Ns now dA gA dc gn gc D G) : Ws.length = L := by have := h.ul.own.1; rw [wdCs_length] at this; omega
theorem US.nlen (h : US w0 w hb AA NA L ac nc pa K0 i Ws Ns now dA gA dc gn gc D G) : Ns.length = L := by have h1 := h.hu.lenN; have h2 := h.hu.lenP; rw [List.length_map] at h2; have := h.wlen; omega
/-- A world of the row, by its place. -/
theorem US.at_ (h : US w0 w hb AA NA L ac nc pa K0 i Ws Ns now dA gA dc gn gc D G) {j : Nat} (hj : j < L) : ∃ z, Ws[j]? = some z ∧ z ∈ Ws ∧ (Ws.map Wd.p)[j]? = some z.p := by
  have hz : Ws[j]? = some (Ws[j]'(by rw [h.wlen]; exact hj)) := List.getElem?_eq_getElem (by rw [h.wlen]; exact hj)
  exact ⟨_, hz, List.mem_of_getElem? hz, by rw [List.getElem?_map, hz]; rfl⟩
theorem US.name (h : US w0 w hb AA NA L ac nc pa K0 i Ws Ns now dA gA dc gn gc D G) {j : Nat} {s : ByteArray} (hj : Ns[j]? = some s) : ∃ b o, NA = some ⟨b, o, none⟩ ∧ w.cell? ⟨b, o + j, none⟩ = some (.string s) := by
  have hlt := (List.getElem?_eq_some_iff.1 hj).1
  obtain ⟨b, o, h1, _, _, h4⟩ := h.ul.nown.rdy.2 (by have := h.nlen; omega)
  exact ⟨b, o, h1, h4 j _ (by unfold strV; rw [List.getElem?_map, hj]; rfl)⟩
theorem US.world (h : US w0 w hb AA NA L ac nc pa K0 i Ws Ns now dA gA dc gn gc D G) {j : Nat} {f : Wd} (hj : Ws[j]? = some f) : ∃ b o, AA = some ⟨b, o, none⟩ ∧ b < w.heap.size ∧ w.cell? ⟨b, o + j * 3, none⟩ = some (.slice f.kA f.kn f.kc) ∧ w.cell? ⟨b, o + j * 3 + 1, none⟩ = some (.slice f.gA f.gn f.gc) ∧ w.cell? ⟨b, o + j * 3 + 2, none⟩ = some (.slice f.iA f.im f.ic) :=
  h.ul.own.rdy.rd.wd (by have := (List.getElem?_eq_some_iff.1 hj).1; rw [h.wlen] at this; exact this) hj
end

/-! ### Xs -/
def blk2 : Code → Option Code
  | .block i c => if i = 2 then some c else blk2 c
  | .seq a b => match blk2 a with
    | some c => some c
    | none => blk2 b
  | .loop c => blk2 c
  | .scope c => blk2 c
  | .cond _ a b => match blk2 a with
    | some c => some c
    | none => blk2 b
  | _ => none
def thenOf : Code → Code
  | .seq _ (.cond _ a _) => a
  | _ => .skip
def elseOf : Code → Code
  | .seq _ (.cond _ _ b) => b
  | _ => .skip
def tailOf : Code → Option Code
  | .seq (.seq _ (.block i c)) b => if i = 2 then some b else match tailOf c with
    | some d => some d
    | none => tailOf b
  | .seq a b => match tailOf a with
    | some c => some c
    | none => tailOf b
  | .block _ c => tailOf c
  | .loop c => tailOf c
  | .scope c => tailOf c
  | .cond _ a b => match tailOf a with
    | some c => some c
    | none => tailOf b
  | _ => none
noncomputable def usSw : Code := (Try.f18.body.bind blk2).getD .skip
noncomputable def usUndo : Code := thenOf usSw
noncomputable def usRedo : Code := thenOf (elseOf usSw)
noncomputable def usJoin : Code := thenOf (elseOf (elseOf usSw))
noncomputable def usDo : Code := elseOf (elseOf (elseOf usSw))
noncomputable def usTail : Code := (Try.f18.body.bind tailOf).getD .skip

set_option maxHeartbeats 1600000 in
theorem undo_none (hb : Nat) (x : Wd) (R2 : Value) (dA : Option Addr) (dc : Nat) (w : World) (hk : HsB w hb x (.slice dA 0 dc) R2) :
    Calls Try.prog 85 #[.pointer (some ⟨hb, 0, none⟩)] w fun e w' => e = .returned (.tuple #[.string ⟨#[]⟩, .int .i64 4]) ∧ w' = w := by
  have a4 : w.cell? ⟨hb, 3, none⟩ = some (.slice dA 0 dc) := Bk.cell hk 3
  clear hk
  go_enter Try.func85, Try.ntmps85
  go_wp2_with fail
  go_ret2
  exact ⟨rfl, rfl⟩
set_option maxHeartbeats 1600000 in
theorem redo_none (hb : Nat) (x : Wd) (R1 : Value) (gA : Option Addr) (gc : Nat) (w : World) (hk : HsB w hb x R1 (.slice gA 0 gc)) :
    Calls Try.prog 87 #[.pointer (some ⟨hb, 0, none⟩)] w fun e w' => e = .returned (.tuple #[.string ⟨#[]⟩, .int .i64 4]) ∧ w' = w := by
  have a4 : w.cell? ⟨hb, 4, none⟩ = some (.slice gA 0 gc) := Bk.cell hk 4
  clear hk
  go_enter Try.func87, Try.ntmps87
  go_wp2_with fail
  go_ret2
  exact ⟨rfl, rfl⟩
theorem split_last {α : Type} {l : List α} {n : Nat} (h : l.length = n + 1) : ∃ l' s, l = l' ++ [s] ∧ l'.length = n := by
  refine ⟨l.dropLast, l.getLast (by intro e; rw [e] at h; simp at h), (List.dropLast_concat_getLast _).symm, by rw [List.length_dropLast, h]; rfl⟩

/-! ### Xy -/
theorem wdCs_oneCell (l : List Wd) : ∀ u ∈ wdCs l, u.oneCell' = true := fun u hu => by
  simp only [wdCs, List.mem_flatMap, Wd.cs] at hu
  obtain ⟨x, _, hx⟩ := hu
  simp at hx
  rcases hx with rfl | rfl | rfl <;> rfl
theorem strV_oneCell (l : List ByteArray) : ∀ u ∈ strV l, u.oneCell' = true := fun u hu => by
  unfold strV at hu
  obtain ⟨x, _, rfl⟩ := List.mem_map.1 hu
  rfl
theorem strV_length (l : List ByteArray) : (strV l).length = l.length := by simp [strV]
theorem strV_set (l : List ByteArray) (j : Nat) (s : ByteArray) : strV (l.set j s) = (strV l).set j (.string s) := by simp [strV, List.map_set]
theorem and7 (n : Int) : bits BinOp.and IntKind.i64 n 7 = n % 8 := by
  have h15 : (BitVec.ofInt 64 7).toNat = 2 ^ 3 - 1 := by decide
  have key : (BitVec.ofInt 64 n &&& BitVec.ofInt 64 7).toNat = (n % ((2 ^ 64 : Nat) : Int)).toNat % 2 ^ 3 := by
    rw [BitVec.toNat_and, BitVec.toNat_ofInt, h15, Nat.and_two_pow_sub_one_eq_mod]
  show IntKind.i64.wrap ((BitVec.ofInt 64 n &&& BitVec.ofInt 64 7).toNat : Nat) = n % 8
  rw [key, IntKind.wrap_i64]
  omega
theorem OwnO.tailW {w : World} {base n c : Nat} {A : Option Addr} {l : List Wd} (h : OwnO w base 52 3 A (n + 1) c (wdCs l)) : ∃ g o, A = some ⟨g, o, none⟩ ∧ OwnO w base 52 3 (some ⟨g, o + 3, none⟩) n (c - 1) (wdCs l.tail) := by
  cases l with
  | nil => have := h.1; simp [wdCs] at this
  | cons x r =>
    have h1 : OwnO w base 52 3 A (n + 1) c (wdCs [x] ++ wdCs r) := by rw [← wdCs_app]; exact h
    exact h1.tail (by rw [wdCs_length]; rfl)
theorem OwnO.tailS {w : World} {base n c : Nat} {A : Option Addr} {l : List ByteArray} (h : OwnO w base 9 1 A (n + 1) c (strV l)) : ∃ g o, A = some ⟨g, o, none⟩ ∧ OwnO w base 9 1 (some ⟨g, o + 1, none⟩) n (c - 1) (strV l.tail) := by
  cases l with
  | nil => have := h.1; simp [strV] at this
  | cons x r =>
    have h1 : OwnO w base 9 1 A (n + 1) c (strV [x] ++ strV r) := by rw [← strV_app2]; exact h
    exact h1.tail (by rw [strV_length]; rfl)
/-- A cell of a row is set. -/
theorem OwnO.set1 {w : World} {base n c g o j : Nat} {t : TypeId} {xs : List Value} (h : OwnO w base t 1 (some ⟨g, o, none⟩) n c xs) (hj : j < n) (u : Value) : OwnO (w.setCell ⟨g, o + j, none⟩ u) base t 1 (some ⟨g, o, none⟩) n c (xs.set j u) := by
  refine ⟨by rw [List.length_set]; exact h.1, ?_⟩
  obtain ⟨g', o', cur, e, h3, h4, h5, h6, h7, h8⟩ := h.at_ (by omega)
  injection e with e
  injection e with e1 e2
  subst e1 e2
  refine .inr ⟨g, o, cur.setIfInBounds (o + j) u, rfl, h3, h4.set_ _ _, h5, h6, by rw [Array.size_setIfInBounds]; exact h7, ?_⟩
  rw [Array.toList_setIfInBounds, ← h8, List.drop_set, if_neg (by omega), List.take_set, Nat.add_sub_cancel_left]
theorem HU.eqs {L : List StM} {Ps Ps' : List (Wv Kp2)} {Ns Ns' : List ByteArray} (h : HU L Ps Ns) (h1 : Ps' = Ps) (h2 : Ns' = Ns) : HU L Ps' Ns' := by rw [h1, h2]; exact h
/-- What the stores into rows of some types leave of the rest of the world. -/
structure Kz5 (B : Nat) (F : List TypeId) (w w' : World) : Prop where
  os : w'.os = w.os
  tape : w'.tape = w.tape
  output : w'.output = w.output
  kx : Kx B F w w'
theorem Kz5.trans {B : Nat} {F : List TypeId} {a b c : World} (h : Kz5 B F a b) (k : Kz5 B F b c) : Kz5 B F a c := ⟨k.os.trans h.os, k.tape.trans h.tape, k.output.trans h.output, h.kx.trans k.kx⟩
theorem Kz5.toBelow {B : Nat} {F : List TypeId} {a b : World} (h : Kz5 B F a b) (hB : B ≤ a.heap.size) : Below B a b := ⟨h.os, h.tape, h.output, h.kx.size, fun k hk => h.kx.low k hk (by omega)⟩
theorem RdY.al_ {w : World} {B n size : Nat} {e : TypeId} {A : Option Addr} {xs : List Value} (h : RdY w B e size A n xs) (o : Obj) : RdY (w.alloc o) B e size A n xs := h.keep (F := []) (Kx.refl.alloc o) (by simp)
theorem RdY.drew_ {w : World} {B n size : Nat} {e : TypeId} {A : Option Addr} {xs : List Value} (h : RdY w B e size A n xs) : RdY w.drew B e size A n xs := h
theorem OwnO.al_ {w : World} {base sz n c : Nat} {t : TypeId} {A : Option Addr} {xs : List Value} (h : OwnO w base t sz A n c xs) (o : Obj) : OwnO (w.alloc o) base t sz A n c xs := h.keep (F := []) (Kx.refl.alloc o) (by simp)
theorem OwnO.drew_ {w : World} {base sz n c : Nat} {t : TypeId} {A : Option Addr} {xs : List Value} (h : OwnO w base t sz A n c xs) : OwnO w.drew base t sz A n c xs := h
theorem Kz5.refl_ {B : Nat} {F : List TypeId} {w : World} : Kz5 B F w w := ⟨rfl, rfl, rfl, Kx.refl⟩
theorem Kz5.al_ {B : Nat} {F : List TypeId} {w0 w : World} (h : Kz5 B F w0 w) (o : Obj) : Kz5 B F w0 (w.alloc o) := ⟨h.os, h.tape, h.output, h.kx.alloc o⟩
theorem Kz5.drew_ {B : Nat} {F : List TypeId} {w0 w : World} (h : Kz5 B F w0 w) : Kz5 B F w0 w.drew := ⟨h.os, h.tape, h.output, h.kx.drew⟩
theorem Kz5.grown {B b : Nat} {F : List TypeId} {w0 w w' : World} {t : TypeId} {cs : Array Value} (h : Kz5 B F w0 w) (hg : w.grownBy w' (some b)) (hb : Bk w b t cs) (hB : B ≤ b) (ht : t ∈ F) : Kz5 B F w0 w' := ⟨hg.os.trans h.os, hg.tape.trans h.tape, hg.output.trans h.output, h.kx.trans ((Kx.gb1 hg hb hB).mono (Nat.le_refl _) (fun s hs => by rw [List.mem_singleton.1 hs]; exact ht))⟩
theorem split3 {α : Type} (l : List α) {i j : Nat} (hij : i ≤ j) : l = l.take i ++ (l.take j).drop i ++ l.drop j := by
  have h1 : l.take i = (l.take j).take i := by rw [List.take_take, Nat.min_eq_left hij]
  rw [h1, List.take_append_drop, List.take_append_drop]
def qf (Ws : List Wd) (now : Wd) (pa k : Nat) : Wv Kp2 := ((Ws.map Wd.p)[pa - k]?).getD now.p
section
variable {w0 w w' : World} {hb : Nat} {AA NA : Option Addr} {L ac nc pa : Nat} {K0 : List Kp2} {i : Nat} {Ws : List Wd} {Ns : List ByteArray} {now : Wd} {dA gA : Option Addr} {dc gn gc : Nat} {D G : List StM}
theorem US.qf_ (h : US w0 w hb AA NA L ac nc pa K0 i Ws Ns now dA gA dc gn gc D G) (k : Nat) : ∃ z, Ws[pa - k]? = some z ∧ z ∈ Ws ∧ qf Ws now pa k = z.p := by
  obtain ⟨z, h1, h2, h3⟩ := h.at_ (j := pa - k) (by have := h.len; omega)
  exact ⟨z, h1, h2, by unfold qf; rw [h3]; rfl⟩
theorem US.qf0 (h : US w0 w hb AA NA L ac nc pa K0 i Ws Ns now dA gA dc gn gc D G) : qf Ws now pa 0 = now.p := by unfold qf; rw [Nat.sub_zero, h.nw]; rfl
theorem US.back {C D1 : List StM} {n : Nat} (h : US w0 w hb AA NA L ac nc pa K0 i Ws Ns now dA gA dc gn gc (C ++ D1) G) (hn : D1.length = n) : ∀ k, k < n → ∃ s, D1[n - 1 - k]? = some s ∧ s.bb = encD (qf Ws now pa k) (qf Ws now pa (k + 1)) := by
  intro k hk
  have hd : pa = C.length + n := by have := h.hy.d.len; rw [List.length_append, hn] at this; exact this
  obtain ⟨s, hs⟩ : ∃ s, D1[n - 1 - k]? = some s := ⟨_, List.getElem?_eq_getElem (by omega)⟩
  refine ⟨s, hs, ?_⟩
  obtain ⟨a, b, e1, e2, _, _, e5⟩ := h.hu.st (pa - (k + 1)) s (by
    rw [List.append_assoc, List.getElem?_append_right (by omega), List.getElem?_append_left (by omega), show pa - (k + 1) - C.length = n - 1 - k by omega]; exact hs)
  rw [show pa - (k + 1) + 1 = pa - k by omega] at e2
  unfold qf
  rw [e1, e2]; exact e5
theorem US.join1 {C D1 : List StM} {s : StM} {za zb : Wd} (h : US w0 w hb AA NA L ac nc pa K0 i Ws Ns now dA gA dc gn gc (C ++ D1) G) (hn : 0 < D1.length) (hza : Ws[C.length]? = some za) (hzb : Ws[pa]? = some zb) (h1 : s.ob = encD za.p zb.p) (h2 : s.bb = encD zb.p za.p) :
    HU (C ++ [s] ++ G.reverse) ((Ws.take (C.length + 1) ++ Ws.drop pa).map Wd.p) ((Ns.take (C.length + 1) ++ Ns.drop pa).set (C.length + 1) s.nm) := by
  have hd : pa = C.length + D1.length := by have := h.hy.d.len; rw [List.length_append] at this; exact this
  have := h.hu.join (C := C) (D := D1) (E := G.reverse) (s := s) (a := za.p) (b := zb.p) hn (by rw [List.getElem?_map, hza]; rfl) (by rw [← hd, List.getElem?_map, hzb]; rfl) h1 h2
  rw [← hd] at this
  rw [List.map_append, List.map_take, List.map_drop]
  exact this
theorem US.enc_ (h : US w0 w hb AA NA L ac nc pa K0 i Ws Ns now dA gA dc gn gc D G) (hK : KOk K0) (hi : i < 120) (k j : Nat) : encOk (FW (qf Ws now pa k)) (FW (qf Ws now pa j)) := by
  obtain ⟨a, _, ha, e1⟩ := h.qf_ k
  obtain ⟨b, _, hb, e2⟩ := h.qf_ j
  rw [e1, e2]
  exact h.ul.enc (by omega) hK.1 hK.2.1 hK.2.2 ha hb
theorem US.good_ (h : US w0 w hb AA NA L ac nc pa K0 i Ws Ns now dA gA dc gn gc D G) (hK : KOk K0) (k : Nat) : GoodW (qf Ws now pa k) := by
  obtain ⟨a, _, ha, e1⟩ := h.qf_ k
  rw [e1]; exact h.ul.good hK.1 ha
end

theorem step_appW {ops : Array Oper} {E : Prop} {o : Oper} {a : Act} {w w00 : World} {cur : Array Value} {K : Act → World → Prop} {Q : Exit → Act → World → Prop} {base n b c1 bA oA : Nat} {xs : List Value} {cs : Array Value} (hgd : o.guard = none) (s x : Operand)
    (ho : o.op = .call { callee := .builtin .append, args := #[s, x], argTypes := #[58, 58] }) (hr : RdY w 0 52 3 (some ⟨bA, oA, none⟩) n xs) (hs : a.eval s = .slice (some ⟨bA, oA, none⟩) n n) (hx : a.eval x = .slice (some ⟨b, 0, none⟩) 1 c1) (hb : Bk w b 52 cs) (hcs : cs.size = 3) (h1 : ∀ u ∈ cs.toList, u.oneCell' = true) (hsm : n < 1000000) (hbu : base ≤ w00.heap.size) (hbb : base ≤ bA) (hba : Bk w bA 52 cur) (hz : Kz5 base [52, 9] w00 w)
    (h : ∀ g' o' c' w', OwnO w' base 52 3 (some ⟨g', o', none⟩) (n + 1) c' (xs ++ cs.toList) → Kx 0 [52] w w' → w.grownBy w' (some bA) → Kz5 base [52, 9] w00 w' → K (a.put o.dst (.slice (some ⟨g', o', none⟩) (n + 1) c')) w') :
    if Region.wanted o (yielded ops a.tmps) = true then Oper.wp Try.prog o a w K Q else E := by
  obtain ⟨iS, hi, hz0, hz1, hz2⟩ := info_parts T.infoWd
  rw [if_pos (by simp [Region.wanted, hgd])]
  exact opw_append_g hgd s x ho Try.underlying58 hi hz0 hz1 hz2 rfl (by decide) (by omega) hr (.inl ⟨rfl, fun e => by cases e⟩) hs hx hb hcs h1 hsm (Nat.le_trans hbu hz.kx.size) fun g' o' c' w' h2 h3 _ => h g' o' c' w' h2 (Kx.gb1 h3 hba (Nat.zero_le _)) h3 (hz.grown h3 hba hbb (by simp))
theorem step_appS {ops : Array Oper} {E : Prop} {o : Oper} {a : Act} {w w00 : World} {cur : Array Value} {K : Act → World → Prop} {Q : Exit → Act → World → Prop} {base n b c1 bA oA : Nat} {xs : List Value} {cs : Array Value} (hgd : o.guard = none) (s x : Operand)
    (ho : o.op = .call { callee := .builtin .append, args := #[s, x], argTypes := #[108, 108] }) (hr : RdY w 0 9 1 (some ⟨bA, oA, none⟩) n xs) (hs : a.eval s = .slice (some ⟨bA, oA, none⟩) n n) (hx : a.eval x = .slice (some ⟨b, 0, none⟩) 1 c1) (hb : Bk w b 9 cs) (hcs : cs.size = 1) (h1 : ∀ u ∈ cs.toList, u.oneCell' = true) (hsm : n < 1000000) (hbu : base ≤ w00.heap.size) (hbb : base ≤ bA) (hba : Bk w bA 9 cur) (hz : Kz5 base [52, 9] w00 w)
    (h : ∀ g' o' c' w', OwnO w' base 9 1 (some ⟨g', o', none⟩) (n + 1) c' (xs ++ cs.toList) → Kx 0 [9] w w' → w.grownBy w' (some bA) → Kz5 base [52, 9] w00 w' → K (a.put o.dst (.slice (some ⟨g', o', none⟩) (n + 1) c')) w') :
    if Region.wanted o (yielded ops a.tmps) = true then Oper.wp Try.prog o a w K Q else E := by
  obtain ⟨iS, hi, hz0, hz1, hz2⟩ := info_parts T.info9S
  rw [if_pos (by simp [Region.wanted, hgd])]
  exact opw_append_g hgd s x ho Try.underlying108 hi hz0 hz1 hz2 rfl (by decide) (by omega) hr (.inl ⟨rfl, fun e => by cases e⟩) hs hx hb hcs h1 hsm (Nat.le_trans hbu hz.kx.size) fun g' o' c' w' h2 h3 _ => h g' o' c' w' h2 (Kx.gb1 h3 hba (Nat.zero_le _)) h3 (hz.grown h3 hba hbb (by simp))
set_option maxHeartbeats 8000000 in
theorem do_same (hb base : Nat) (x v : Wd) (nm : ByteArray) (dA gA : Option Addr) (dn dc gn gc : Nat) (D G : List StM) (w : World) (h : HistY w hb base x dA dn dc D gA gn gc G) (hv : WdY w 0 v) (hc : wcheckF v.p = 0) (he : x.p = v.p) :
    Calls Try.prog 84 #[.pointer (some ⟨hb, 0, none⟩), .string nm, .agg #[.slice v.kA v.kn v.kc, .slice v.gA v.gn v.gc, .slice v.iA v.im v.ic]] w fun e w' => e = .returned (.int .i64 5) ∧ Below w.heap.size w w' := by
  have hbw : hb < w.heap.size := Bk.lt h.bk
  obtain ⟨W1, hW1⟩ : ∃ W1, W1 = w.alloc (.cells #[.slice v.kA v.kn v.kc, .slice v.gA v.gn v.gc, .slice v.iA v.im v.ic] 52) := ⟨_, rfl⟩
  have hb1 : Below w.heap.size w W1 := by rw [hW1]; exact Below.al (Below.refl _ _) _
  have hbx : Bk W1 w.heap.size 52 #[.slice v.kA v.kn v.kc, .slice v.gA v.gn v.gc, .slice v.iA v.im v.ic] := by rw [hW1]; exact Bk.new _ _ _
  have HCK : Hid (Calls Try.prog 32 #[.agg #[.slice v.kA v.kn v.kc, .slice v.gA v.gn v.gc, .slice v.iA v.im v.ic]] W1 fun e w' => e = .returned (.int .i64 0) ∧ Below W1.heap.size W1 w') := Lib.hid (by
    have := wcheck_any (hv.ok_.below hb1)
    rw [hc] at this; exact this)
  have HSM : Hid (∀ wz, Below W1.heap.size W1 wz → Calls Try.prog 38 #[.agg #[.slice x.kA x.kn x.kc, .slice x.gA x.gn x.gc, .slice x.iA x.im x.ic], .agg #[.slice v.kA v.kn v.kc, .slice v.gA v.gn v.gc, .slice v.iA v.im v.ic]] wz fun e w' => e = .returned (.bool true) ∧ Below wz.heap.size wz w') := Lib.hid (fun wz hb => by
    have := wsame_any (h.x.ok_.below (hb1.trans (hb.mono hb1.size))) (hv.ok_.below (hb1.trans (hb.mono hb1.size)))
    rw [decide_eq_true he] at this; exact this)
  have HH := Lib.hid h
  have HBX := Lib.hid hbx
  have HB1 := Lib.hid hb1
  have a0 : W1.cell? ⟨w.heap.size, 0, none⟩ = some (.slice v.kA v.kn v.kc) := hbx.cell 0
  have a1 : W1.cell? ⟨w.heap.size, 1, none⟩ = some (.slice v.gA v.gn v.gc) := hbx.cell 1
  have a2 : W1.cell? ⟨w.heap.size, 2, none⟩ = some (.slice v.iA v.im v.ic) := hbx.cell 2
  clear h hv hc he hbx hb1
  go_enter Try.func84, Try.ntmps84
  go_upto_region 1 with fail
  rw [← hW1]
  clear hW1
  go_wp2_with fail
  with_reducible refine (HCK.out).mono ?_
  clear HCK
  rintro e w2 ⟨rfl, hb2⟩
  have hbk2 : Bk w2 hb 263 #[.slice x.kA x.kn x.kc, .slice x.gA x.gn x.gc, .slice x.iA x.im x.ic, .slice dA dn dc, .slice gA gn gc] := Bk.below (Bk.below HH.out.bk HB1.out hbw) hb2 (by have := HB1.out.size; omega)
  have hbx2 := HBX.out.below hb2 HBX.out.lt
  have HB2 := Lib.hid hb2
  have c0 : w2.cell? ⟨hb, 0, none⟩ = some (.slice x.kA x.kn x.kc) := hbk2.cell 0
  have c1 : w2.cell? ⟨hb, 1, none⟩ = some (.slice x.gA x.gn x.gc) := hbk2.cell 1
  have c2 : w2.cell? ⟨hb, 2, none⟩ = some (.slice x.iA x.im x.ic) := hbk2.cell 2
  have d0 : w2.cell? ⟨w.heap.size, 0, none⟩ = some (.slice v.kA v.kn v.kc) := hbx2.cell 0
  have d1 : w2.cell? ⟨w.heap.size, 1, none⟩ = some (.slice v.gA v.gn v.gc) := hbx2.cell 1
  have d2 : w2.cell? ⟨w.heap.size, 2, none⟩ = some (.slice v.iA v.im v.ic) := hbx2.cell 2
  clear hb2 a0 a1 a2 hbk2 hbx2
  go_upto_if 20 with fail
  go_cut [20] from 15 to 19 (fun bv wx => bv = .bool true ∧ Hid (Below W1.heap.size W1 wx))
  case first =>
    go_region_law
      (go_simp
       go_at_call 38
       (with_reducible refine (HSM.out _ ?hb).mono ?_)
       case hb => (repeat' first | exact HB2.out | refine Below.drew ?_)
       rintro e w3 ⟨rfl, hb3⟩)
    all_goals
      have HB3 : Hid (Below W1.heap.size W1 w3) := Lib.hid (by first | exact Below.tr HB2.out hb3 | exact Below.tr HB2.out.drew hb3)
      go_wp2_with fail
      go_meet
      case rel => exact ⟨rfl, HB3⟩
  case rest =>
    obtain ⟨rfl, HB3⟩ := hcut
    go_wp2_with fail
    go_ret
    exact ⟨rfl, HB1.out.trans (HB3.out.mono HB1.out.size)⟩
end Go.Proofs.Ytnidcmhfbkdioaa
