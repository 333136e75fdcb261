/-
  The contract of merger.comps. Conditions: what is read can be read; three valid entities.
-/
import Derived.Test.YtnidcmhfbkdioaaMf
import Derived.Test.YtnidcmhfbkdioaaMl
import Derived.Test.YtnidcmhfbkdioaaMn
import Derived.Deep.CutBlock
namespace Go.Proofs.Ytnidcmhfbkdioaa
open Go.RowKit
set_option maxRecDepth 100000

theorem Kp.grownNew {base g : Nat} {e e2 : TypeId} {a w w' : World} (h : Kp base e g a w) {size n : Nat} {v : Value} {xs : List Value} (ho : w.ownsRow a.heap.size e2 size v n xs) (hg : w.grownBy w' v.ownBlock) : Kp base e g a w' := by
  have hr : ∀ k, k < a.heap.size → some k ≠ v.ownBlock := fun k hk e1 => by have := (ho.lt k e1.symm).1; omega
  have hs := h.size
  exact ⟨hg.os.trans h.os, hg.tape.trans h.tape, hg.output.trans h.output, Nat.le_trans h.size hg.size, fun k h1 h2 h3 => (hg.block k (by omega) (hr k h2)).trans (h.low k h1 h2 h3), fun k t cs h1 h2 h3 => (hg.block k (by have := h1.lt; omega) (hr k h1.lt)).trans (h.block k t cs h1 h2 h3)⟩
theorem Kp.lowB {base g B : Nat} {e : TypeId} {a w : World} (h : Kp base e g a w) (hB : B ≤ base) (hg : base ≤ g) (ha : B ≤ a.heap.size) : Below B a w :=
  ⟨h.os, h.tape, h.output, h.size, fun k hk => h.low k (by omega) (by omega) (by omega)⟩
theorem own_far {w : World} {base size n g : Nat} {e t : TypeId} {v : Value} {xs : List Value} {cs : Array Value} (h : w.ownsRow base e size v n xs) (hg : Bk w g t cs) (hne : e ≠ t) (i : Nat) (u : Value) :
    (w.setCell ⟨g, i, none⟩ u).ownsRow base e size v n xs :=
  (Kx.set (B := 0) (F := [t]) Kx.refl hg (Nat.zero_le _) (by simp) i u).own h (by simp [hne])

theorem compF_not {O X Y : Option (List Int)} {s k : Int} (h : ¬ (O.isSome = true ∧ X.isSome = true ∧ Y.isSome = true)) : compF O X Y = (pick O X Y).1 ∧ compC s k O X Y = if (pick O X Y).2 = true then [(1, s, k, 0)] else [] := by
  cases O <;> cases X <;> cases Y <;> first | exact ⟨rfl, rfl⟩ | (exfalso; exact h ⟨rfl, rfl, rfl⟩)
theorem compsF_step (K : Nat) (o x y : List Cv) : compsF (K + 1) o x y = compsF K o x y ++ optC K (compF (findC o K) (findC x K) (findC y K)) := by
  unfold compsF; rw [List.range_succ, List.flatMap_append]; simp
theorem compsC_step (s : Int) (K : Nat) (o x y : List Cv) : compsC s (K + 1) o x y = compsC s K o x y ++ compC s K (findC o K) (findC x K) (findC y K) := by
  unfold compsC; rw [List.range_succ, List.flatMap_append]; simp
theorem compC_len (s k : Int) (O X Y : Option (List Int)) (h : ∀ v, X = some v → v.length ≤ 1024) : (compC s k O X Y).length ≤ 1024 := by
  cases O with
  | none => show (if _ then _ else _ : List Cl).length ≤ _; split <;> simp
  | some o =>
    cases X with
    | none => show (if _ then _ else _ : List Cl).length ≤ _; split <;> simp
    | some x =>
      cases Y with
      | none => show (if _ then _ else _ : List Cl).length ≤ _; split <;> simp
      | some y =>
        show (valsC s k o x y x.length).length ≤ _
        unfold valsC
        rw [List.length_map]
        exact Nat.le_trans (List.length_filter_le _ _) (by simpa using h x rfl)
theorem compsC_len (s : Int) (K : Nat) (o x y : List Cv) (h : ∀ (k : Nat) v, findC x (k : Int) = some v → v.length ≤ 1024) : (compsC s K o x y).length ≤ K * 1024 := by
  induction K with
  | zero => simp [compsC]
  | succ K ih =>
    rw [compsC_step, List.length_append]
    have := compC_len s K (findC o K) (findC x K) (findC y K) (fun v hv => h K v hv)
    omega

/-- What a look-up of a component hands back. -/
structure CpR (w : World) (B : Nat) (A : Option Addr) (n c : Nat) (b : Bool) (v : List Int) (O : Option (List Int)) : Prop where
  opt : O = if b = true then some v else none
  nil : b = false → v = []
  len : n = v.length
  cap : n ≤ c
  cap2 : c ≤ 9223372036854775807
  rd : Rd w B 1 A n (v.map (Value.int .i64))
theorem CompP.uni {w : World} {B : Nat} {x : It} {k : Int} {e : Ending} (h : CompP x k e) (hx : ItOk w B x) : ∃ A n c b v, e = .returned (.tuple #[.slice A n c, .bool b]) ∧ CpR w B A n c b v (findC (x.cms.map Cm.p) k) := by
  rcases h with ⟨cm, hm, hk, hf, rfl⟩ | ⟨hf, rfl⟩
  · have hc := hx.cs.ok cm hm
    exact ⟨cm.A, cm.n, cm.c, true, cm.vals, rfl, hf, (fun h => by cases h), hc.len, hc.cap, hc.cap2, hc.rd⟩
  · exact ⟨none, 0, 0, false, [], rfl, hf, fun _ => rfl, rfl, Nat.le_refl _, by omega, Rd.nil_ _⟩

/-- The values of components lie below B, or in blocks from h on. -/
def Fr (h B : Nat) (l : List Cm) : Prop := ∀ z ∈ l, 0 < z.n → ∀ b o, z.A = some ⟨b, o, none⟩ → b < B ∨ h ≤ b
theorem Fr.mono {h h' B : Nat} {l : List Cm} (H : Fr h B l) (hh : h' ≤ h) : Fr h' B l := fun z hz hn b o hA => (H z hz hn b o hA).imp id fun h2 => Nat.le_trans hh h2
theorem Fr.of_ok {w : World} {h B : Nat} {x : It} (H : ItOk w B x) : Fr h B x.cms := fun z hz hn b o hA => by
  obtain ⟨b', o', hA', hb', _⟩ := (H.cs.ok z hz).rd.2 hn
  rw [hA] at hA'
  injection hA' with hA'
  injection hA' with h1
  exact .inl (by omega)
/-- The frame of merger.comps. -/
structure CI (h : Nat) (wr : World) (B : Nat) (o x y : It) (A : Option Addr) (n c : Nat) (l1 : List Cm) : Prop where
  b0 : Bk wr h 147 #[.int .i64 o.e, .int .i64 o.g, .slice o.A o.n o.c]
  b1 : Bk wr (h + 1) 147 #[.int .i64 x.e, .int .i64 x.g, .slice x.A x.n x.c]
  b2 : Bk wr (h + 2) 147 #[.int .i64 y.e, .int .i64 y.g, .slice y.A y.n y.c]
  b3 : Bk wr (h + 3) 147 #[.int .i64 0, .int .i64 0, .slice none 0 0]
  b4 : Bk wr (h + 4) 147 #[.int .i64 x.e, .int .i64 x.g, .slice A n c]
  own : wr.ownsRow h 166 2 (.slice A n c) n (cmCs l1)
  len : n = l1.length
  ok : ∀ z ∈ l1, CmY wr B z
  fr : Fr h B l1
theorem CI.kx {h : Nat} {wr w' : World} {B B' : Nat} {o x y : It} {A : Option Addr} {n c : Nat} {l1 : List Cm} {F : List TypeId} (H : CI h wr B o x y A n c l1) (hq : Kx B' F wr w') (hB : B ≤ B') (h147 : (147 : TypeId) ∉ F) (h166 : (166 : TypeId) ∉ F) (h3 : (3 : TypeId) ∉ F) : CI h w' B o x y A n c l1 :=
  ⟨hq.bk H.b0 h147, hq.bk H.b1 h147, hq.bk H.b2 h147, hq.bk H.b3 h147, hq.bk H.b4 h147, hq.own H.own h166, H.len, fun z hz => (H.ok z hz).keep (hq.mono hB (fun _ h => h)) h3, H.fr⟩
theorem CI.below {h : Nat} {wr w' : World} {B : Nat} {o x y : It} {A : Option Addr} {n c : Nat} {l1 : List Cm} (H : CI h wr B o x y A n c l1) (hb : Below wr.heap.size wr w') : CI h w' B o x y A n c l1 := H.kx (F := []) (Kx.of_below (B := B) hb) (Nat.le_refl _) (by simp) (by simp) (by simp)

theorem equal_uni {w : World} {B : Nat} {A A' : Option Addr} {n n' c c' : Nat} {b b' : Bool} {v v' : List Int} {O O' : Option (List Int)} (h : CpR w B A n c b v O) (h' : CpR w B A' n' c' b' v' O') {wx : World} (hb : Below B w wx) :
    Calls Try.prog 27 #[.slice A n c, .slice A' n' c'] wx fun e w' => e = .returned (.bool (decide (v = v'))) ∧ ∃ m, wx.drewN m = w' :=
  equalInts_any A A' n c n' c' B v v' wx h.len h'.len (by have := h.cap; have := h.cap2; omega) (h.rd.below hb) (h'.rd.below hb)

theorem all_some {ob xb yb : Bool} {ov xv yv : List Int} {OO XX YY : Option (List Int)} (h1 : OO = if ob = true then some ov else none) (h2 : XX = if xb = true then some xv else none) (h3 : YY = if yb = true then some yv else none) (h : OO.isSome = true ∧ XX.isSome = true ∧ YY.isSome = true) : ob = true ∧ xb = true ∧ yb = true := by
  subst h1; subst h2; subst h3
  cases ob <;> cases xb <;> cases yb <;> simp_all
theorem pick_leaf {ob xb yb : Bool} {ov xv yv : List Int} {OO XX YY : Option (List Int)} (h1 : OO = if ob = true then some ov else none) (h2 : XX = if xb = true then some xv else none) (h3 : YY = if yb = true then some yv else none)
    (n1 : ob = false → ov = []) (n2 : xb = false → xv = []) (n3 : yb = false → yv = []) {d1 d2 d3 : Bool} (f1 : d1 = decide (xv = yv)) (f2 : d2 = decide (xv = ov)) (f3 : d3 = decide (yv = ov)) :
    ((xb == yb) && d1) = decide (XX = YY) ∧ ((xb == ob) && d2) = decide (XX = OO) ∧ ((yb == ob) && d3) = decide (YY = OO) := by
  subst h1; subst h2; subst h3; subst f1; subst f2; subst f3
  cases ob <;> cases xb <;> cases yb <;> simp_all
theorem pick_1 {O X Y : Option (List Int)} (h : X = Y) : pick O X Y = (X, false) := by unfold pick; rw [if_pos h]
theorem pick_2 {O X Y : Option (List Int)} (h : X ≠ Y) (h2 : X = O) : pick O X Y = (Y, false) := by unfold pick; rw [if_neg h, if_pos h2]
theorem pick_3 {O X Y : Option (List Int)} (h : X ≠ Y) (h2 : X ≠ O) (h3 : Y = O) : pick O X Y = (X, false) := by unfold pick; rw [if_neg h, if_neg h2, if_pos h3]
theorem pick_4 {O X Y : Option (List Int)} (h : X ≠ Y) (h2 : X ≠ O) (h3 : Y ≠ O) : pick O X Y = (X, true) := by unfold pick; rw [if_neg h, if_neg h2, if_neg h3]
theorem drew_tr {a b c : World} (h : ∃ j, a.drewN j = b) (h' : ∃ j, b.drewN j = c) : ∃ j, a.drewN j = c := by
  obtain ⟨j, rfl⟩ := h
  obtain ⟨i, rfl⟩ := h'
  exact ⟨_, (World.drewN_drewN _ _ _).symm⟩
theorem drew_below {B : Nat} {w a b : World} (h : Below B w a) (h' : ∃ j, a.drewN j = b) : Below B w b := by
  obtain ⟨j, rfl⟩ := h'
  exact below_dn h j
theorem wf_i64 {n : Int} (h1 : -9223372036854775808 ≤ n) (h2 : n ≤ 9223372036854775807) : (Lit.int .i64 n).wf = true := by
  simp [Lit.wf, IntKind.min, IntKind.max, IntKind.signed, IntKind.bits]
  omega

theorem mcomps_step {h : Nat} {w wc w6 w7 : World} {B : Nat} {o x y : It} {A A6 : Option Addr} {n c vn c6 g7 c7 k base m : Nat} {l1 : List Cm} {v : List Int} {LC : List Cl} (H : CI h wc B o x y A n c l1) (hb6 : Below wc.heap.size wc w6) {hw : Nat} (hown6 : w6.ownsRow hw 3 1 (.slice A6 vn c6) vn (v.map (Value.int .i64)))
    (hg7 : (w6.alloc (.cells #[.int .i64 (k : Int), .slice A6 vn c6] 166)).grownBy w7 (Value.slice A n c).ownBlock) (hown7 : w7.ownsRow h 166 2 (.slice (some ⟨g7, 0, none⟩) (n + 1) c7) (n + 1) (cmCs l1 ++ (#[Value.int .i64 (k : Int), .slice A6 vn c6] : Array Value).toList))
    (hs : MgSt wc base m LC) (hk : Kp base 73 m w wc) (hvn : vn = v.length) (hk16 : k < 16) (_hB : B ≤ base) (_hm : base ≤ m) (hBh : B ≤ h) (hwh : w.heap.size = h) (hhw : h ≤ hw) :
    CI h (w7.setCell ⟨h + 4, 2, none⟩ (.slice (some ⟨g7, 0, none⟩) (n + 1) c7)) B o x y (some ⟨g7, 0, none⟩) (n + 1) c7 (l1 ++ [(⟨k, A6, vn, c6, v⟩ : Cm)]) ∧ MgSt (w7.setCell ⟨h + 4, 2, none⟩ (.slice (some ⟨g7, 0, none⟩) (n + 1) c7)) base m LC ∧ Kp base 73 m w (w7.setCell ⟨h + 4, 2, none⟩ (.slice (some ⟨g7, 0, none⟩) (n + 1) c7)) := by
  have hown0 : (w6.alloc (.cells #[.int .i64 (k : Int), .slice A6 vn c6] 166)).ownsRow h 166 2 (.slice A n c) n (cmCs l1) := ((Kx.of_below (B := 0) (F := []) hb6).own H.own (by simp)).alloc _
  have hq7 : Kx B [166] wc w7 := (((Kx.refl (B := B)).below hb6).alloc _).grown hown0 hg7 hBh (by simp)
  have hq67 : Kx B [166] w6 w7 := ((Kx.refl (B := B)).alloc _).grown hown0 hg7 hBh (by simp)
  have b4 := hq7.bk H.b4 (by decide)
  have hset : Kx B [147] w7 (w7.setCell ⟨h + 4, 2, none⟩ (.slice (some ⟨g7, 0, none⟩) (n + 1) c7)) := Kx.set Kx.refl b4 (by omega) (by simp) 2 _
  have hcp := own_cap2 hown6
  refine ⟨⟨(hq7.bk H.b0 (by decide)).far (p := ⟨h + 4, 2, none⟩) (by show h ≠ h + 4; omega) _, (hq7.bk H.b1 (by decide)).far (p := ⟨h + 4, 2, none⟩) (by show h + 1 ≠ h + 4; omega) _, (hq7.bk H.b2 (by decide)).far (p := ⟨h + 4, 2, none⟩) (by show h + 2 ≠ h + 4; omega) _, (hq7.bk H.b3 (by decide)).far (p := ⟨h + 4, 2, none⟩) (by show h + 3 ≠ h + 4; omega) _, by simpa using b4.set_ 2 (.slice (some ⟨g7, 0, none⟩) (n + 1) c7), ?_, by simp [H.len], fun z hz => ?_, fun z hz hn b o hA => ?_⟩, ?_, ?_⟩
  · rw [show cmCs (l1 ++ [(⟨k, A6, vn, c6, v⟩ : Cm)]) = cmCs l1 ++ (#[Value.int .i64 (k : Int), .slice A6 vn c6] : Array Value).toList by simp [cmCs, Cm.cs]]
    exact own_far hown7 b4 (by decide) 2 _
  · rcases List.mem_append.1 hz with hz | hz
    · exact ((H.ok z hz).keep hq7 (by decide)).keep hset (by decide)
    · rw [show z = ⟨k, A6, vn, c6, v⟩ by simpa using hz]
      exact ⟨((RdY.of_own hown6).keep hq67 (by decide)).keep hset (by decide), hvn, hcp.1, hcp.2, wf_i64 (by show _ ≤ ((k : Nat) : Int); omega) (by show ((k : Nat) : Int) ≤ _; omega)⟩
  · rcases List.mem_append.1 hz with hz | hz
    · exact H.fr z hz hn b o hA
    · rw [show z = ⟨k, A6, vn, c6, v⟩ by simpa using hz] at hA
      have hA : A6 = some ⟨b, o, none⟩ := hA
      subst hA
      have := (hown6.lt b rfl).1
      exact .inr (by omega)
  · exact ((hs.kx hq7 (by decide) (by decide))).kx hset (by decide) (by decide)
  · exact (((hk.trans (Kp.of_below hb6 (Nat.le_refl _))).alloc _).grownNew (by rw [hwh]; exact hown0) hg7).setNew (by omega) 2 _

set_option maxHeartbeats 6400000 in
theorem mcomps_any (base m B K : Nat) (o x y : It) (L : List Cl) (w : World) (hst : MgSt w base m L) (hB : B ≤ base) (hm : base ≤ m) (hbw : base ≤ w.heap.size) (ho : ItOk w B o) (hx : ItOk w B x) (hy : ItOk w B y) (hK : K ≤ 16) (hL : L.length ≤ 100000000)
    (hlen : ∀ (k : Nat) u v z, findC (o.cms.map Cm.p) k = some u → findC (x.cms.map Cm.p) k = some v → findC (y.cms.map Cm.p) k = some z → u.length = v.length ∧ z.length = v.length)
    (hsm : ∀ z : It, z = o ∨ z = x ∨ z = y → ∀ (k : Nat) v, findC (z.cms.map Cm.p) k = some v → v.length ≤ 1024) :
    Calls Try.prog 172 #[.pointer (some ⟨m, 0, none⟩), .int .i64 K, .agg #[.int .i64 o.e, .int .i64 o.g, .slice o.A o.n o.c], .agg #[.int .i64 x.e, .int .i64 x.g, .slice x.A x.n x.c], .agg #[.int .i64 y.e, .int .i64 y.g, .slice y.A y.n y.c]] w fun e w' =>
      ∃ A n c l', e = .returned (.agg #[.int .i64 x.e, .int .i64 x.g, .slice A n c]) ∧ Hid (CsY w' B A n c l' ∧ l'.map Cm.p = compsF K (o.cms.map Cm.p) (x.cms.map Cm.p) (y.cms.map Cm.p) ∧ Fr w.heap.size B l') ∧ MgSt w' base m (L ++ compsC x.e K (o.cms.map Cm.p) (x.cms.map Cm.p) (y.cms.map Cm.p)) ∧ Kp base 73 m w w' := by
  obtain ⟨iC, hiC, hzC0, hzC1, hzC2⟩ := info_parts T.infoCl
  obtain ⟨i1, hi1, hz10, hz11, hz12⟩ := info_parts T.infoCm
  obtain ⟨W0, hW0⟩ : ∃ W0, W0 = ((((w.alloc (.cells #[.int .i64 o.e, .int .i64 o.g, .slice o.A o.n o.c] 147)).alloc (.cells #[.int .i64 x.e, .int .i64 x.g, .slice x.A x.n x.c] 147)).alloc (.cells #[.int .i64 y.e, .int .i64 y.g, .slice y.A y.n y.c] 147)).alloc (.cells #[.int .i64 0, .int .i64 0, .slice none 0 0] 147)).alloc (.cells #[.int .i64 x.e, .int .i64 x.g, .slice none 0 0] 147) := ⟨_, rfl⟩
  have hb0 : Below w.heap.size w W0 := by rw [hW0]; exact Below.al (Below.al (Below.al (Below.al (Below.al (Below.refl _ _) _) _) _) _) _
  have hci : CI w.heap.size W0 B o x y none 0 0 [] := by
    rw [hW0]
    refine ⟨((((Bk.new w 147 _).alloc _).alloc _).alloc _).alloc _, (((Bk.two w _ 147 _).alloc _).alloc _).alloc _, ((Bk.three w _ _ 147 _).alloc _).alloc _, ?_, ?_, World.ownsRow_nil _ _ _ _, rfl, (fun z hz => by cases hz), (fun z hz => by cases hz)⟩
    · exact (show Bk _ (w.heap.size + 3) 147 _ by simpa using Bk.new (((w.alloc _).alloc _).alloc _) 147 #[.int .i64 0, .int .i64 0, .slice none 0 0]).alloc _
    · simpa using Bk.new ((((w.alloc (.cells #[.int .i64 o.e, .int .i64 o.g, .slice o.A o.n o.c] 147)).alloc (.cells #[.int .i64 x.e, .int .i64 x.g, .slice x.A x.n x.c] 147)).alloc (.cells #[.int .i64 y.e, .int .i64 y.g, .slice y.A y.n y.c] 147)).alloc (.cells #[.int .i64 0, .int .i64 0, .slice none 0 0] 147)) 147 #[.int .i64 x.e, .int .i64 x.g, .slice none 0 0]
  have HCI0 := Lib.hid hci
  have HST0 : Hid (MgSt W0 base m (L ++ compsC x.e 0 (o.cms.map Cm.p) (x.cms.map Cm.p) (y.cms.map Cm.p))) := Lib.hid (by rw [show compsC x.e 0 (o.cms.map Cm.p) (x.cms.map Cm.p) (y.cms.map Cm.p) = [] from rfl, List.append_nil]; exact hst.below hb0)
  have HK0 : Hid (Kp base 73 m w W0) := Lib.hid (Kp.of_below hb0 (Nat.le_refl _))
  have HO := Lib.hid ho
  have HX := Lib.hid hx
  have HY := Lib.hid hy
  have HLEN := Lib.hid hlen
  have HSM := Lib.hid hsm
  have HLL := Lib.hid hL
  have hBw : B ≤ w.heap.size := Nat.le_trans hB hbw
  clear hst ho hx hy hlen hsm hb0 hci hL
  go_enter Try.func172, Try.ntmps172
  go_wp2_with fail
  rw [← hW0]
  clear hW0
  go_loopw [25] (fun iv wr => ∃ (k n c : Nat) (A : Option Addr) (l1 : List Cm), k ≤ K ∧ n ≤ k ∧ iv = .int .i64 k ∧ Hid (CI w.heap.size wr B o x y A n c l1) ∧ Hid (l1.map Cm.p = compsF k (o.cms.map Cm.p) (x.cms.map Cm.p) (y.cms.map Cm.p)) ∧ Hid (MgSt wr base m (L ++ compsC x.e k (o.cms.map Cm.p) (x.cms.map Cm.p) (y.cms.map Cm.p))) ∧ Hid (Kp base 73 m w wr)) (fun iv _ => K - (intOf iv).toNat)
  case atStart => exact ⟨0, 0, 0, none, [], Nat.zero_le _, Nat.le_refl _, rfl, HCI0, Lib.hid rfl, HST0, HK0⟩
  case round =>
    clear HCI0 HST0 HK0
    obtain ⟨k, n, c, A, l1, hk, hnk, rfl, HCI, HL1, HST, HK⟩ := hrel
    by_cases hlt : k < K
    · have hkz : (k : Int) < K := by omega

      have HC0 := HCI
      have HS0 := HST
      have HKw0 := HK

      have q10 : wr.cell? ⟨w.heap.size, 0, none⟩ = some (.int .i64 o.e) := HC0.out.b0.cell 0
      have q11 : wr.cell? ⟨w.heap.size, 1, none⟩ = some (.int .i64 o.g) := HC0.out.b0.cell 1
      have q12 : wr.cell? ⟨w.heap.size, 2, none⟩ = some (.slice o.A o.n o.c) := HC0.out.b0.cell 2
      have hbl1 : Below B w wr := HKw0.out.lowB hB hm hBw
      have HCP1 := Lib.hid (comp_any o (k : Int) (⟨HO.out.cs.below hbl1, HO.out.wf1, HO.out.wf2⟩ : ItOk wr B o))
      clear hbl1
      go_wp2_with fail
      (with_reducible refine HCP1.out.mono ?_)
      rintro e v1 ⟨hcp1, hvb1⟩
      obtain ⟨oA, on, oc, ob, ov, rfl, hr1⟩ := hcp1.uni HO.out
      have HR1 := Lib.hid hr1
      have HC1 := Lib.hid (HC0.out.below hvb1)
      have HS1 := Lib.hid (HS0.out.below hvb1)
      have HKw1 : Hid (Kp base 73 m w v1) := Lib.hid (HKw0.out.trans (Kp.of_below hvb1 (Nat.le_refl _)))
      clear q10 q11 q12 hcp1 hvb1 hr1 HCP1 HC0 HS0 HKw0

      have q20 : v1.cell? ⟨w.heap.size + 1, 0, none⟩ = some (.int .i64 x.e) := HC1.out.b1.cell 0
      have q21 : v1.cell? ⟨w.heap.size + 1, 1, none⟩ = some (.int .i64 x.g) := HC1.out.b1.cell 1
      have q22 : v1.cell? ⟨w.heap.size + 1, 2, none⟩ = some (.slice x.A x.n x.c) := HC1.out.b1.cell 2
      have hbl2 : Below B w v1 := HKw1.out.lowB hB hm hBw
      have HCP2 := Lib.hid (comp_any x (k : Int) (⟨HX.out.cs.below hbl2, HX.out.wf1, HX.out.wf2⟩ : ItOk v1 B x))
      clear hbl2
      go_wp2_with fail
      (with_reducible refine HCP2.out.mono ?_)
      rintro e v2 ⟨hcp2, hvb2⟩
      obtain ⟨xA, xn, xc, xb, xv, rfl, hr2⟩ := hcp2.uni HX.out
      have HR2 := Lib.hid hr2
      have HC2 := Lib.hid (HC1.out.below hvb2)
      have HS2 := Lib.hid (HS1.out.below hvb2)
      have HKw2 : Hid (Kp base 73 m w v2) := Lib.hid (HKw1.out.trans (Kp.of_below hvb2 (Nat.le_refl _)))
      clear q20 q21 q22 hcp2 hvb2 hr2 HCP2 HC1 HS1 HKw1

      have q30 : v2.cell? ⟨w.heap.size + 2, 0, none⟩ = some (.int .i64 y.e) := HC2.out.b2.cell 0
      have q31 : v2.cell? ⟨w.heap.size + 2, 1, none⟩ = some (.int .i64 y.g) := HC2.out.b2.cell 1
      have q32 : v2.cell? ⟨w.heap.size + 2, 2, none⟩ = some (.slice y.A y.n y.c) := HC2.out.b2.cell 2
      have hbl3 : Below B w v2 := HKw2.out.lowB hB hm hBw
      have HCP3 := Lib.hid (comp_any y (k : Int) (⟨HY.out.cs.below hbl3, HY.out.wf1, HY.out.wf2⟩ : ItOk v2 B y))
      clear hbl3
      go_wp2_with fail
      (with_reducible refine HCP3.out.mono ?_)
      rintro e v3 ⟨hcp3, hvb3⟩
      obtain ⟨yA, yn, yc, yb, yv, rfl, hr3⟩ := hcp3.uni HY.out
      have HR3 := Lib.hid hr3
      have HC3 := Lib.hid (HC2.out.below hvb3)
      have HS3 := Lib.hid (HS2.out.below hvb3)
      have HKw3 : Hid (Kp base 73 m w v3) := Lib.hid (HKw2.out.trans (Kp.of_below hvb3 (Nat.le_refl _)))
      clear q30 q31 q32 hcp3 hvb3 hr3 HCP3 HC2 HS2 HKw2

      clear HCI HST HK
      have hoc := HR1.out.cap
      have hoc2 := HR1.out.cap2
      have hxc := HR2.out.cap
      have hxc2 := HR2.out.cap2
      have hyc := HR3.out.cap
      have hyc2 := HR3.out.cap2
      obtain ⟨OO, hOO⟩ : ∃ OO, OO = findC (o.cms.map Cm.p) (k : Int) := ⟨_, rfl⟩
      obtain ⟨XX, hXX⟩ : ∃ XX, XX = findC (x.cms.map Cm.p) (k : Int) := ⟨_, rfl⟩
      obtain ⟨YY, hYY⟩ : ∃ YY, YY = findC (y.cms.map Cm.p) (k : Int) := ⟨_, rfl⟩
      rw [← hOO] at HR1
      rw [← hXX] at HR2
      rw [← hYY] at HR3
      have HFF := Lib.hid (And.intro hOO (And.intro hXX hYY))
      clear hOO hXX hYY
      obtain ⟨LC, hLC⟩ : ∃ LC, LC = L ++ compsC x.e k (o.cms.map Cm.p) (x.cms.map Cm.p) (y.cms.map Cm.p) := ⟨_, rfl⟩
      rw [← hLC] at HS3
      have hLl : LC.length ≤ 100000000 + 16384 := by
        rw [hLC, List.length_append]
        have := compsC_len x.e k (o.cms.map Cm.p) (x.cms.map Cm.p) (y.cms.map Cm.p) (fun j v hj => HSM.out x (.inr (.inl rfl)) j v hj)
        have := HLL.out
        omega
      have HLC := Lib.hid hLC
      have HLl := Lib.hid hLl
      clear hLC hLl
      go_upto_block 2 with fail
      go_cut [19, 20] from 48 to 107 (fun kv vv wx => ∃ (b : Bool) (vA : Option Addr) (vn vc : Nat) (v : List Int), kv = .bool b ∧ vv = .slice vA vn vc ∧ vn ≤ 1024 ∧ vn ≤ vc ∧ vc ≤ 9223372036854775807 ∧ Hid (compF OO XX YY = (if b = true then some v else none) ∧ vn = v.length ∧ RdY wx B 3 1 vA vn (v.map (Value.int .i64))) ∧ Hid (MgSt wx base m (LC ++ compC x.e k OO XX YY)) ∧ Hid (CI w.heap.size wx B o x y A n c l1) ∧ Hid (Kp base 73 m w wx))
      case first =>
        have HE1 := Lib.hid (fun wx hb => equal_uni (w := w) (B := B) HR2.out HR3.out (wx := wx) hb)
        have HE2 := Lib.hid (fun wx hb => equal_uni (w := w) (B := B) HR2.out HR1.out (wx := wx) hb)
        have HE3 := Lib.hid (fun wx hb => equal_uni (w := w) (B := B) HR3.out HR1.out (wx := wx) hb)
        have hB3 : Below B w v3 := HKw3.out.lowB hB hm hBw
        by_cases hall : ob = true ∧ xb = true ∧ yb = true
        · obtain ⟨rfl, rfl, rfl⟩ := hall
          have e1 : OO = some ov := HR1.out.opt
          have e2 : XX = some xv := HR2.out.opt
          have e3 : YY = some yv := HR3.out.opt
          obtain ⟨l1', l2'⟩ := HLEN.out k ov xv yv (HFF.out.1.symm.trans e1) (HFF.out.2.1.symm.trans e2) (HFF.out.2.2.symm.trans e3)
          have hv1 := HSM.out x (.inr (.inl rfl)) k xv (HFF.out.2.1.symm.trans e2)
          have hn1 := HR1.out.len
          have hn2 := HR2.out.len
          have hn3 := HR3.out.len
          obtain rfl : on = xn := by omega
          obtain rfl : yn = on := by omega
          have HVAL := Lib.hid (vals_any base m B x.e k oA xA yA yn oc xc yc ov xv yv LC v3 HS3.out hB hm (Nat.le_trans hbw HKw3.out.size) hn1 hn2 hn3 (by omega) (by have := HLl.out; omega) hoc hoc2 hxc hxc2 hyc hyc2 (HR1.out.rd.below hB3) (HR2.out.rd.below hB3) (HR3.out.rd.below hB3))
          have r10 : v3.cell? ⟨w.heap.size + 1, 0, none⟩ = some (.int .i64 x.e) := HC3.out.b1.cell 0
          have hv2 : yn ≤ 1024 := by omega
          have HEE := Lib.hid (And.intro e1 (And.intro e2 (And.intro e3 hn2)))
          clear e1 e2 e3 l1' l2' hv1 hn1 hn2 hn3
          go_wp2_with fail
          (with_reducible refine HVAL.out.mono ?_)
          rintro e w6 ⟨A6, c6, rfl, hr6, hs6, hk6⟩
          have HREL : Hid (Hid (compF OO XX YY = (if true = true then some (valsF ov xv yv) else none) ∧ yn = (valsF ov xv yv).length ∧ RdY w6 B 3 1 A6 yn ((valsF ov xv yv).map (Value.int .i64))) ∧ Hid (MgSt w6 base m (LC ++ compC x.e k OO XX YY)) ∧ Hid (CI w.heap.size w6 B o x y A n c l1) ∧ Hid (Kp base 73 m w w6)) := Lib.hid
            ⟨Lib.hid ⟨by rw [HEE.out.1, HEE.out.2.1, HEE.out.2.2.1]; rfl, by have := HEE.out.2.2.2; simp [valsF]; exact this, hr6.out.1.more (Nat.zero_le _)⟩,
             Lib.hid (by rw [HEE.out.1, HEE.out.2.1, HEE.out.2.2.1]; show MgSt w6 base m (LC ++ valsC x.e k ov xv yv xv.length); rw [← HEE.out.2.2.2]; exact hs6),
             Lib.hid (HC3.out.kx (Kx.of_kp hk6 HS3.out hB hm) (Nat.le_refl _) (by decide) (by decide) (by decide)), Lib.hid (HKw3.out.trans hk6)⟩
          have hcap6 := hr6.out.2
          clear hr6 hs6 hk6
          go_wp2_with fail
          go_meet
          case rel => exact ⟨true, A6, yn, c6, valsF ov xv yv, rfl, rfl, hv2, hcap6.1, hcap6.2, HREL.out.1, HREL.out.2.1, HREL.out.2.2.1, HREL.out.2.2.2⟩
        · have hpk := compF_not (O := OO) (X := XX) (Y := YY) (s := x.e) (k := k) (fun h => hall (all_some HR1.out.opt HR2.out.opt HR3.out.opt h))
          have HPK := Lib.hid hpk
          clear hpk
          have HEX : Hid (∀ wx, (∃ j, v3.drewN j = wx) → (pick OO XX YY) = (XX, false) → ∃ (b : Bool) (vA : Option Addr) (vn vc : Nat) (v : List Int), Value.bool xb = .bool b ∧ Value.slice xA xn xc = .slice vA vn vc ∧ vn ≤ 1024 ∧ vn ≤ vc ∧ vc ≤ 9223372036854775807 ∧ Hid (compF OO XX YY = (if b = true then some v else none) ∧ vn = v.length ∧ RdY wx B 3 1 vA vn (v.map (Value.int .i64))) ∧ Hid (MgSt wx base m (LC ++ compC x.e k OO XX YY)) ∧ Hid (CI w.heap.size wx B o x y A n c l1) ∧ Hid (Kp base 73 m w wx)) := Lib.hid fun wx hj hp => by
            obtain ⟨j, rfl⟩ := hj
            refine ⟨xb, xA, xn, xc, xv, rfl, rfl, ?_, HR2.out.cap, HR2.out.cap2, Lib.hid ⟨by rw [HPK.out.1, hp]; exact HR2.out.opt, HR2.out.len, RdY.of_rd (HR2.out.rd.below (hB3.trans (below_dn (Below.refl _ _) j))) (Nat.le_refl _) (Nat.le_trans hBw HKw3.out.size)⟩, Lib.hid ?_, Lib.hid (HC3.out.kx (F := []) ((Kx.refl (B := B)).drewN j) (Nat.le_refl _) (by simp) (by simp) (by simp)), Lib.hid (HKw3.out.drewN j)⟩
            · have h1 := HR2.out.opt
              have h2 := HR2.out.nil
              have h3 := HR2.out.len
              cases xb
              · rw [h2 rfl] at h3; simp at h3; omega
              · have := HSM.out x (.inr (.inl rfl)) k xv (HFF.out.2.1.symm.trans h1); omega
            · rw [HPK.out.2, hp]; simp only [Bool.false_eq_true, if_false, List.append_nil]
              exact HS3.out.kx (F := []) ((Kx.refl (B := B)).drewN j) (by simp) (by simp)
          have HEY : Hid (∀ wx, (∃ j, v3.drewN j = wx) → (pick OO XX YY) = (YY, false) → ∃ (b : Bool) (vA : Option Addr) (vn vc : Nat) (v : List Int), Value.bool yb = .bool b ∧ Value.slice yA yn yc = .slice vA vn vc ∧ vn ≤ 1024 ∧ vn ≤ vc ∧ vc ≤ 9223372036854775807 ∧ Hid (compF OO XX YY = (if b = true then some v else none) ∧ vn = v.length ∧ RdY wx B 3 1 vA vn (v.map (Value.int .i64))) ∧ Hid (MgSt wx base m (LC ++ compC x.e k OO XX YY)) ∧ Hid (CI w.heap.size wx B o x y A n c l1) ∧ Hid (Kp base 73 m w wx)) := Lib.hid fun wx hj hp => by
            obtain ⟨j, rfl⟩ := hj
            refine ⟨yb, yA, yn, yc, yv, rfl, rfl, ?_, HR3.out.cap, HR3.out.cap2, Lib.hid ⟨by rw [HPK.out.1, hp]; exact HR3.out.opt, HR3.out.len, RdY.of_rd (HR3.out.rd.below (hB3.trans (below_dn (Below.refl _ _) j))) (Nat.le_refl _) (Nat.le_trans hBw HKw3.out.size)⟩, Lib.hid ?_, Lib.hid (HC3.out.kx (F := []) ((Kx.refl (B := B)).drewN j) (Nat.le_refl _) (by simp) (by simp) (by simp)), Lib.hid (HKw3.out.drewN j)⟩
            · have h1 := HR3.out.opt
              have h2 := HR3.out.nil
              have h3 := HR3.out.len
              cases yb
              · rw [h2 rfl] at h3; simp at h3; omega
              · have := HSM.out y (.inr (.inr rfl)) k yv (HFF.out.2.2.symm.trans h1); omega
            · rw [HPK.out.2, hp]; simp only [Bool.false_eq_true, if_false, List.append_nil]
              exact HS3.out.kx (F := []) ((Kx.refl (B := B)).drewN j) (by simp) (by simp)
          have HCLX : Hid (∀ wx w5 : World, (∃ j, v3.drewN j = wx) → (pick OO XX YY) = (XX, true) → ∀ (CA : Option Addr) (cc g5 cc5 : Nat), wx.ownsRow base 73 4 (.slice CA LC.length cc) LC.length (clCs LC) → w5.ownsRow base 73 4 (.slice (some ⟨g5, 0, none⟩) (LC.length + 1) cc5) (LC.length + 1) (clCs LC ++ (#[Value.int .i64 1, .int .i64 x.e, .int .i64 (k : Int), .int .i64 0] : Array Value).toList) → Bk w5 m 198 #[.slice CA LC.length cc] →
              (wx.drew.alloc (.cells #[.int .i64 1, .int .i64 x.e, .int .i64 (k : Int), .int .i64 0] 73)).grownBy w5 (Value.slice CA LC.length cc).ownBlock → ∃ (b : Bool) (vA : Option Addr) (vn vc : Nat) (v : List Int), Value.bool xb = .bool b ∧ Value.slice xA xn xc = .slice vA vn vc ∧ vn ≤ 1024 ∧ vn ≤ vc ∧ vc ≤ 9223372036854775807 ∧ Hid (compF OO XX YY = (if b = true then some v else none) ∧ vn = v.length ∧ RdY (w5.setCell ⟨m, 0, none⟩ (.slice (some ⟨g5, 0, none⟩) (LC.length + 1) cc5)) B 3 1 vA vn (v.map (Value.int .i64))) ∧ Hid (MgSt (w5.setCell ⟨m, 0, none⟩ (.slice (some ⟨g5, 0, none⟩) (LC.length + 1) cc5)) base m (LC ++ compC x.e k OO XX YY)) ∧ Hid (CI w.heap.size (w5.setCell ⟨m, 0, none⟩ (.slice (some ⟨g5, 0, none⟩) (LC.length + 1) cc5)) B o x y A n c l1) ∧ Hid (Kp base 73 m w (w5.setCell ⟨m, 0, none⟩ (.slice (some ⟨g5, 0, none⟩) (LC.length + 1) cc5)))) := Lib.hid fun wx w5 hj hp CA cc g5 cc5 how hown5 hbk5 hg5 => by
            obtain ⟨j, rfl⟩ := hj
            have hkx : Kx B [73, 198] v3 (w5.setCell ⟨m, 0, none⟩ (.slice (some ⟨g5, 0, none⟩) (LC.length + 1) cc5)) := (((((Kx.refl (B := B)).drewN j).drew.alloc _).grown (World.ownsRow.alloc (w := (v3.drewN j).drew) how _) hg5 hB (by simp)).set hbk5 (by omega) (by simp) 0 _)
            have hbk6 : Bk (w5.setCell ⟨m, 0, none⟩ (.slice (some ⟨g5, 0, none⟩) (LC.length + 1) cc5)) m 198 #[.slice (some ⟨g5, 0, none⟩) (LC.length + 1) cc5] := by simpa using hbk5.set_ 0 (.slice (some ⟨g5, 0, none⟩) (LC.length + 1) cc5)
            refine ⟨xb, xA, xn, xc, xv, rfl, rfl, ?_, HR2.out.cap, HR2.out.cap2, Lib.hid ⟨by rw [HPK.out.1, hp]; exact HR2.out.opt, HR2.out.len, (RdY.of_rd (HR2.out.rd.below hB3) (Nat.le_refl _) (Nat.le_trans hBw HKw3.out.size)).keep hkx (by decide)⟩, Lib.hid ?_, Lib.hid (HC3.out.kx hkx (Nat.le_refl _) (by decide) (by decide) (by decide)), Lib.hid (((((HKw3.out.drewN j).drew.alloc _).grown (World.ownsRow.alloc (w := (v3.drewN j).drew) how _) hg5).setG 0 _))⟩
            · have h1 := HR2.out.opt
              have h2 := HR2.out.nil
              have h3 := HR2.out.len
              cases xb
              · rw [h2 rfl] at h3; simp at h3; omega
              · have := HSM.out x (.inr (.inl rfl)) k xv (HFF.out.2.1.symm.trans h1); omega
            · rw [HPK.out.2, hp]; simp only [if_true]
              refine ⟨some ⟨g5, 0, none⟩, cc5, ?_, ?_⟩
              · rw [List.length_append]; exact hbk6
              · rw [List.length_append, clCs_snoc]
                exact own_far hown5 hbk5 (by decide) 0 _
          obtain ⟨d1, hd1⟩ : ∃ d, d = decide (xv = yv) := ⟨_, rfl⟩
          obtain ⟨d2, hd2⟩ : ∃ d, d = decide (xv = ov) := ⟨_, rfl⟩
          obtain ⟨d3, hd3⟩ : ∃ d, d = decide (yv = ov) := ⟨_, rfl⟩
          rw [← hd1] at HE1
          rw [← hd2] at HE2
          rw [← hd3] at HE3
          have HPL := Lib.hid (pick_leaf HR1.out.opt HR2.out.opt HR3.out.opt HR1.out.nil HR2.out.nil HR3.out.nil hd1 hd2 hd3)
          have HB3 := Lib.hid hB3
          have hws : base ≤ v3.heap.size := Nat.le_trans hbw HKw3.out.size
          clear hd1 hd2 hd3 hB3 HR1 HR2 HR3 HLEN HSM HPK HKw3
          cases ob
          · cases xb
            · cases yb
              · go_wp2_with fail
                (with_reducible refine (HE1.out v3 (drew_below HB3.out ⟨0, rfl⟩)).mono ?_)
                rintro e t1 ⟨rfl, hj1⟩
                have HJ1 := Lib.hid (drew_tr ⟨0, rfl⟩ hj1)
                clear hj1
                cases d1
                · go_wp2_with fail
                  (with_reducible refine (HE2.out t1 (drew_below HB3.out HJ1.out)).mono ?_)
                  rintro e t2 ⟨rfl, hj2⟩
                  have HJ2 := Lib.hid (drew_tr HJ1.out hj2)
                  clear hj2
                  cases d2
                  · go_wp2_with fail
                    (with_reducible refine (HE3.out t2 (drew_below HB3.out HJ2.out)).mono ?_)
                    rintro e t3 ⟨rfl, hj3⟩
                    have HJ3 := Lib.hid (drew_tr HJ2.out hj3)
                    clear hj3
                    cases d3
                    · have hS7 : MgSt t3 base m LC := by obtain ⟨j, hj⟩ := HJ3.out; rw [← hj]; exact HS3.out.kx (F := []) ((Kx.refl (B := B)).drewN j) (by simp) (by simp)
                      have hC7 : CI w.heap.size t3 B o x y A n c l1 := by obtain ⟨j, hj⟩ := HJ3.out; rw [← hj]; exact HC3.out.kx (F := []) ((Kx.refl (B := B)).drewN j) (Nat.le_refl _) (by simp) (by simp) (by simp)
                      have hws7 : base ≤ t3.heap.size := by obtain ⟨j, hj⟩ := HJ3.out; rw [← hj]; exact hws
                      obtain ⟨CA, cc, hbk, how⟩ := hS7.ex
                      have c4 : t3.cell? ⟨m, 0, none⟩ = some (.slice CA LC.length cc) := hbk.cell 0
                      have c5 : t3.cell? ⟨w.heap.size + 1, 0, none⟩ = some (.int .i64 x.e) := hC7.b1.cell 0
                      have c6 : (t3.alloc (.cells #[.int .i64 1, .int .i64 x.e, .int .i64 (k : Int), .int .i64 0] 73)).cell? ⟨m, 0, none⟩ = some (.slice CA LC.length cc) := (hbk.alloc _).cell 0
                      have hql := HLl.out
                      clear hS7 hC7
                      go_wp2_with fail
                      go_region_law
                        (refine step_append_one rfl (.tmp 52) (.tmp 58) 55 rfl base 73 iC (.agg #[.int .i64 0, .int .i64 0, .int .i64 0, .int .i64 0]) 4 32 Try.underlying55 hiC hzC0 hzC1 hzC2 rfl (by decide) (.slice CA LC.length cc) LC.length (clCs LC) rfl (World.ownsRow.alloc (w := t3.drew) how _) t3.heap.size 1 73 #[.int .i64 1, .int .i64 x.e, .int .i64 (k : Int), .int .i64 0] rfl (Bk.new t3.drew _ _) rfl ?c1 (LC.length + 1) rfl ?c2 ?c3 ?c4 ?_
                         case c1 => simp [Value.oneCell']
                         case c2 => unfold maxLen; omega
                         case c3 => omega
                         case c4 => simp; omega
                         intro g5 cc5 w5 hown5 hg5 hat5
                         have hbk5 := ((hbk.drewN 1).alloc (.cells #[.int .i64 1, .int .i64 x.e, .int .i64 (k : Int), .int .i64 0] 73)).grown hg5 (fun e => own_ne how hbk (by decide) e.symm)
                         have e5 : w5.cell? ⟨m, 0, none⟩ = some (.slice CA LC.length cc) := hbk5.cell 0
                         have f5 : w5.frozen? ⟨m, 0, none⟩ = false := hbk5.frozen 0)
                      all_goals
                        have HRR := Lib.hid (HCLX.out t3 w5 HJ3.out (pick_4 (of_decide_eq_false HPL.out.1.symm) (of_decide_eq_false HPL.out.2.1.symm) (of_decide_eq_false HPL.out.2.2.symm)) CA cc g5 cc5 how hown5 hbk5 hg5)
                        clear e5 f5 c4 c5 c6 hown5 hbk5 hg5 hat5 how hbk
                        go_wp2_with fail
                        go_meet
                        case rel => exact HRR.out
                    · go_wp2_with fail
                      go_meet
                      case rel => exact HEX.out t3 HJ3.out (pick_3 (of_decide_eq_false HPL.out.1.symm) (of_decide_eq_false HPL.out.2.1.symm) (of_decide_eq_true HPL.out.2.2.symm))
                  · go_wp2_with fail
                    go_meet
                    case rel => exact HEY.out t2 HJ2.out (pick_2 (of_decide_eq_false HPL.out.1.symm) (of_decide_eq_true HPL.out.2.1.symm))
                · go_wp2_with fail
                  go_meet
                  case rel => exact HEX.out t1 HJ1.out (pick_1 (of_decide_eq_true HPL.out.1.symm))
              · go_wp2_with fail
                (with_reducible refine (HE2.out v3 (drew_below HB3.out ⟨0, rfl⟩)).mono ?_)
                rintro e t1 ⟨rfl, hj1⟩
                have HJ1 := Lib.hid (drew_tr ⟨0, rfl⟩ hj1)
                clear hj1
                cases d2
                · have hS7 : MgSt t1 base m LC := by obtain ⟨j, hj⟩ := HJ1.out; rw [← hj]; exact HS3.out.kx (F := []) ((Kx.refl (B := B)).drewN j) (by simp) (by simp)
                  have hC7 : CI w.heap.size t1 B o x y A n c l1 := by obtain ⟨j, hj⟩ := HJ1.out; rw [← hj]; exact HC3.out.kx (F := []) ((Kx.refl (B := B)).drewN j) (Nat.le_refl _) (by simp) (by simp) (by simp)
                  have hws7 : base ≤ t1.heap.size := by obtain ⟨j, hj⟩ := HJ1.out; rw [← hj]; exact hws
                  obtain ⟨CA, cc, hbk, how⟩ := hS7.ex
                  have c4 : t1.cell? ⟨m, 0, none⟩ = some (.slice CA LC.length cc) := hbk.cell 0
                  have c5 : t1.cell? ⟨w.heap.size + 1, 0, none⟩ = some (.int .i64 x.e) := hC7.b1.cell 0
                  have c6 : (t1.alloc (.cells #[.int .i64 1, .int .i64 x.e, .int .i64 (k : Int), .int .i64 0] 73)).cell? ⟨m, 0, none⟩ = some (.slice CA LC.length cc) := (hbk.alloc _).cell 0
                  have hql := HLl.out
                  clear hS7 hC7
                  go_wp2_with fail
                  go_region_law
                    (refine step_append_one rfl (.tmp 52) (.tmp 58) 55 rfl base 73 iC (.agg #[.int .i64 0, .int .i64 0, .int .i64 0, .int .i64 0]) 4 32 Try.underlying55 hiC hzC0 hzC1 hzC2 rfl (by decide) (.slice CA LC.length cc) LC.length (clCs LC) rfl (World.ownsRow.alloc (w := t1.drew) how _) t1.heap.size 1 73 #[.int .i64 1, .int .i64 x.e, .int .i64 (k : Int), .int .i64 0] rfl (Bk.new t1.drew _ _) rfl ?c1 (LC.length + 1) rfl ?c2 ?c3 ?c4 ?_
                     case c1 => simp [Value.oneCell']
                     case c2 => unfold maxLen; omega
                     case c3 => omega
                     case c4 => simp; omega
                     intro g5 cc5 w5 hown5 hg5 hat5
                     have hbk5 := ((hbk.drewN 1).alloc (.cells #[.int .i64 1, .int .i64 x.e, .int .i64 (k : Int), .int .i64 0] 73)).grown hg5 (fun e => own_ne how hbk (by decide) e.symm)
                     have e5 : w5.cell? ⟨m, 0, none⟩ = some (.slice CA LC.length cc) := hbk5.cell 0
                     have f5 : w5.frozen? ⟨m, 0, none⟩ = false := hbk5.frozen 0)
                  all_goals
                    have HRR := Lib.hid (HCLX.out t1 w5 HJ1.out (pick_4 (of_decide_eq_false HPL.out.1.symm) (of_decide_eq_false HPL.out.2.1.symm) (of_decide_eq_false HPL.out.2.2.symm)) CA cc g5 cc5 how hown5 hbk5 hg5)
                    clear e5 f5 c4 c5 c6 hown5 hbk5 hg5 hat5 how hbk
                    go_wp2_with fail
                    go_meet
                    case rel => exact HRR.out
                · go_wp2_with fail
                  go_meet
                  case rel => exact HEY.out t1 HJ1.out (pick_2 (of_decide_eq_false HPL.out.1.symm) (of_decide_eq_true HPL.out.2.1.symm))
            · cases yb
              · go_wp2_with fail
                (with_reducible refine (HE3.out v3 (drew_below HB3.out ⟨0, rfl⟩)).mono ?_)
                rintro e t1 ⟨rfl, hj1⟩
                have HJ1 := Lib.hid (drew_tr ⟨0, rfl⟩ hj1)
                clear hj1
                cases d3
                · have hS7 : MgSt t1 base m LC := by obtain ⟨j, hj⟩ := HJ1.out; rw [← hj]; exact HS3.out.kx (F := []) ((Kx.refl (B := B)).drewN j) (by simp) (by simp)
                  have hC7 : CI w.heap.size t1 B o x y A n c l1 := by obtain ⟨j, hj⟩ := HJ1.out; rw [← hj]; exact HC3.out.kx (F := []) ((Kx.refl (B := B)).drewN j) (Nat.le_refl _) (by simp) (by simp) (by simp)
                  have hws7 : base ≤ t1.heap.size := by obtain ⟨j, hj⟩ := HJ1.out; rw [← hj]; exact hws
                  obtain ⟨CA, cc, hbk, how⟩ := hS7.ex
                  have c4 : t1.cell? ⟨m, 0, none⟩ = some (.slice CA LC.length cc) := hbk.cell 0
                  have c5 : t1.cell? ⟨w.heap.size + 1, 0, none⟩ = some (.int .i64 x.e) := hC7.b1.cell 0
                  have c6 : (t1.alloc (.cells #[.int .i64 1, .int .i64 x.e, .int .i64 (k : Int), .int .i64 0] 73)).cell? ⟨m, 0, none⟩ = some (.slice CA LC.length cc) := (hbk.alloc _).cell 0
                  have hql := HLl.out
                  clear hS7 hC7
                  go_wp2_with fail
                  go_region_law
                    (refine step_append_one rfl (.tmp 52) (.tmp 58) 55 rfl base 73 iC (.agg #[.int .i64 0, .int .i64 0, .int .i64 0, .int .i64 0]) 4 32 Try.underlying55 hiC hzC0 hzC1 hzC2 rfl (by decide) (.slice CA LC.length cc) LC.length (clCs LC) rfl (World.ownsRow.alloc (w := t1.drew) how _) t1.heap.size 1 73 #[.int .i64 1, .int .i64 x.e, .int .i64 (k : Int), .int .i64 0] rfl (Bk.new t1.drew _ _) rfl ?c1 (LC.length + 1) rfl ?c2 ?c3 ?c4 ?_
                     case c1 => simp [Value.oneCell']
                     case c2 => unfold maxLen; omega
                     case c3 => omega
                     case c4 => simp; omega
                     intro g5 cc5 w5 hown5 hg5 hat5
                     have hbk5 := ((hbk.drewN 1).alloc (.cells #[.int .i64 1, .int .i64 x.e, .int .i64 (k : Int), .int .i64 0] 73)).grown hg5 (fun e => own_ne how hbk (by decide) e.symm)
                     have e5 : w5.cell? ⟨m, 0, none⟩ = some (.slice CA LC.length cc) := hbk5.cell 0
                     have f5 : w5.frozen? ⟨m, 0, none⟩ = false := hbk5.frozen 0)
                  all_goals
                    have HRR := Lib.hid (HCLX.out t1 w5 HJ1.out (pick_4 (of_decide_eq_false HPL.out.1.symm) (of_decide_eq_false HPL.out.2.1.symm) (of_decide_eq_false HPL.out.2.2.symm)) CA cc g5 cc5 how hown5 hbk5 hg5)
                    clear e5 f5 c4 c5 c6 hown5 hbk5 hg5 hat5 how hbk
                    go_wp2_with fail
                    go_meet
                    case rel => exact HRR.out
                · go_wp2_with fail
                  go_meet
                  case rel => exact HEX.out t1 HJ1.out (pick_3 (of_decide_eq_false HPL.out.1.symm) (of_decide_eq_false HPL.out.2.1.symm) (of_decide_eq_true HPL.out.2.2.symm))
              · go_wp2_with fail
                (with_reducible refine (HE1.out v3 (drew_below HB3.out ⟨0, rfl⟩)).mono ?_)
                rintro e t1 ⟨rfl, hj1⟩
                have HJ1 := Lib.hid (drew_tr ⟨0, rfl⟩ hj1)
                clear hj1
                cases d1
                · have hS7 : MgSt t1 base m LC := by obtain ⟨j, hj⟩ := HJ1.out; rw [← hj]; exact HS3.out.kx (F := []) ((Kx.refl (B := B)).drewN j) (by simp) (by simp)
                  have hC7 : CI w.heap.size t1 B o x y A n c l1 := by obtain ⟨j, hj⟩ := HJ1.out; rw [← hj]; exact HC3.out.kx (F := []) ((Kx.refl (B := B)).drewN j) (Nat.le_refl _) (by simp) (by simp) (by simp)
                  have hws7 : base ≤ t1.heap.size := by obtain ⟨j, hj⟩ := HJ1.out; rw [← hj]; exact hws
                  obtain ⟨CA, cc, hbk, how⟩ := hS7.ex
                  have c4 : t1.cell? ⟨m, 0, none⟩ = some (.slice CA LC.length cc) := hbk.cell 0
                  have c5 : t1.cell? ⟨w.heap.size + 1, 0, none⟩ = some (.int .i64 x.e) := hC7.b1.cell 0
                  have c6 : (t1.alloc (.cells #[.int .i64 1, .int .i64 x.e, .int .i64 (k : Int), .int .i64 0] 73)).cell? ⟨m, 0, none⟩ = some (.slice CA LC.length cc) := (hbk.alloc _).cell 0
                  have hql := HLl.out
                  clear hS7 hC7
                  go_wp2_with fail
                  go_region_law
                    (refine step_append_one rfl (.tmp 52) (.tmp 58) 55 rfl base 73 iC (.agg #[.int .i64 0, .int .i64 0, .int .i64 0, .int .i64 0]) 4 32 Try.underlying55 hiC hzC0 hzC1 hzC2 rfl (by decide) (.slice CA LC.length cc) LC.length (clCs LC) rfl (World.ownsRow.alloc (w := t1.drew) how _) t1.heap.size 1 73 #[.int .i64 1, .int .i64 x.e, .int .i64 (k : Int), .int .i64 0] rfl (Bk.new t1.drew _ _) rfl ?c1 (LC.length + 1) rfl ?c2 ?c3 ?c4 ?_
                     case c1 => simp [Value.oneCell']
                     case c2 => unfold maxLen; omega
                     case c3 => omega
                     case c4 => simp; omega
                     intro g5 cc5 w5 hown5 hg5 hat5
                     have hbk5 := ((hbk.drewN 1).alloc (.cells #[.int .i64 1, .int .i64 x.e, .int .i64 (k : Int), .int .i64 0] 73)).grown hg5 (fun e => own_ne how hbk (by decide) e.symm)
                     have e5 : w5.cell? ⟨m, 0, none⟩ = some (.slice CA LC.length cc) := hbk5.cell 0
                     have f5 : w5.frozen? ⟨m, 0, none⟩ = false := hbk5.frozen 0)
                  all_goals
                    have HRR := Lib.hid (HCLX.out t1 w5 HJ1.out (pick_4 (of_decide_eq_false HPL.out.1.symm) (of_decide_eq_false HPL.out.2.1.symm) (of_decide_eq_false HPL.out.2.2.symm)) CA cc g5 cc5 how hown5 hbk5 hg5)
                    clear e5 f5 c4 c5 c6 hown5 hbk5 hg5 hat5 how hbk
                    go_wp2_with fail
                    go_meet
                    case rel => exact HRR.out
                · go_wp2_with fail
                  go_meet
                  case rel => exact HEX.out t1 HJ1.out (pick_1 (of_decide_eq_true HPL.out.1.symm))
          · cases xb
            · cases yb
              · go_wp2_with fail
                (with_reducible refine (HE1.out v3 (drew_below HB3.out ⟨0, rfl⟩)).mono ?_)
                rintro e t1 ⟨rfl, hj1⟩
                have HJ1 := Lib.hid (drew_tr ⟨0, rfl⟩ hj1)
                clear hj1
                cases d1
                · have hS7 : MgSt t1 base m LC := by obtain ⟨j, hj⟩ := HJ1.out; rw [← hj]; exact HS3.out.kx (F := []) ((Kx.refl (B := B)).drewN j) (by simp) (by simp)
                  have hC7 : CI w.heap.size t1 B o x y A n c l1 := by obtain ⟨j, hj⟩ := HJ1.out; rw [← hj]; exact HC3.out.kx (F := []) ((Kx.refl (B := B)).drewN j) (Nat.le_refl _) (by simp) (by simp) (by simp)
                  have hws7 : base ≤ t1.heap.size := by obtain ⟨j, hj⟩ := HJ1.out; rw [← hj]; exact hws
                  obtain ⟨CA, cc, hbk, how⟩ := hS7.ex
                  have c4 : t1.cell? ⟨m, 0, none⟩ = some (.slice CA LC.length cc) := hbk.cell 0
                  have c5 : t1.cell? ⟨w.heap.size + 1, 0, none⟩ = some (.int .i64 x.e) := hC7.b1.cell 0
                  have c6 : (t1.alloc (.cells #[.int .i64 1, .int .i64 x.e, .int .i64 (k : Int), .int .i64 0] 73)).cell? ⟨m, 0, none⟩ = some (.slice CA LC.length cc) := (hbk.alloc _).cell 0
                  have hql := HLl.out
                  clear hS7 hC7
                  go_wp2_with fail
                  go_region_law
                    (refine step_append_one rfl (.tmp 52) (.tmp 58) 55 rfl base 73 iC (.agg #[.int .i64 0, .int .i64 0, .int .i64 0, .int .i64 0]) 4 32 Try.underlying55 hiC hzC0 hzC1 hzC2 rfl (by decide) (.slice CA LC.length cc) LC.length (clCs LC) rfl (World.ownsRow.alloc (w := t1.drew) how _) t1.heap.size 1 73 #[.int .i64 1, .int .i64 x.e, .int .i64 (k : Int), .int .i64 0] rfl (Bk.new t1.drew _ _) rfl ?c1 (LC.length + 1) rfl ?c2 ?c3 ?c4 ?_
                     case c1 => simp [Value.oneCell']
                     case c2 => unfold maxLen; omega
                     case c3 => omega
                     case c4 => simp; omega
                     intro g5 cc5 w5 hown5 hg5 hat5
                     have hbk5 := ((hbk.drewN 1).alloc (.cells #[.int .i64 1, .int .i64 x.e, .int .i64 (k : Int), .int .i64 0] 73)).grown hg5 (fun e => own_ne how hbk (by decide) e.symm)
                     have e5 : w5.cell? ⟨m, 0, none⟩ = some (.slice CA LC.length cc) := hbk5.cell 0
                     have f5 : w5.frozen? ⟨m, 0, none⟩ = false := hbk5.frozen 0)
                  all_goals
                    have HRR := Lib.hid (HCLX.out t1 w5 HJ1.out (pick_4 (of_decide_eq_false HPL.out.1.symm) (of_decide_eq_false HPL.out.2.1.symm) (of_decide_eq_false HPL.out.2.2.symm)) CA cc g5 cc5 how hown5 hbk5 hg5)
                    clear e5 f5 c4 c5 c6 hown5 hbk5 hg5 hat5 how hbk
                    go_wp2_with fail
                    go_meet
                    case rel => exact HRR.out
                · go_wp2_with fail
                  go_meet
                  case rel => exact HEX.out t1 HJ1.out (pick_1 (of_decide_eq_true HPL.out.1.symm))
              · go_wp2_with fail
                (with_reducible refine (HE3.out v3 (drew_below HB3.out ⟨0, rfl⟩)).mono ?_)
                rintro e t1 ⟨rfl, hj1⟩
                have HJ1 := Lib.hid (drew_tr ⟨0, rfl⟩ hj1)
                clear hj1
                cases d3
                · have hS7 : MgSt t1 base m LC := by obtain ⟨j, hj⟩ := HJ1.out; rw [← hj]; exact HS3.out.kx (F := []) ((Kx.refl (B := B)).drewN j) (by simp) (by simp)
                  have hC7 : CI w.heap.size t1 B o x y A n c l1 := by obtain ⟨j, hj⟩ := HJ1.out; rw [← hj]; exact HC3.out.kx (F := []) ((Kx.refl (B := B)).drewN j) (Nat.le_refl _) (by simp) (by simp) (by simp)
                  have hws7 : base ≤ t1.heap.size := by obtain ⟨j, hj⟩ := HJ1.out; rw [← hj]; exact hws
                  obtain ⟨CA, cc, hbk, how⟩ := hS7.ex
                  have c4 : t1.cell? ⟨m, 0, none⟩ = some (.slice CA LC.length cc) := hbk.cell 0
                  have c5 : t1.cell? ⟨w.heap.size + 1, 0, none⟩ = some (.int .i64 x.e) := hC7.b1.cell 0
                  have c6 : (t1.alloc (.cells #[.int .i64 1, .int .i64 x.e, .int .i64 (k : Int), .int .i64 0] 73)).cell? ⟨m, 0, none⟩ = some (.slice CA LC.length cc) := (hbk.alloc _).cell 0
                  have hql := HLl.out
                  clear hS7 hC7
                  go_wp2_with fail
                  go_region_law
                    (refine step_append_one rfl (.tmp 52) (.tmp 58) 55 rfl base 73 iC (.agg #[.int .i64 0, .int .i64 0, .int .i64 0, .int .i64 0]) 4 32 Try.underlying55 hiC hzC0 hzC1 hzC2 rfl (by decide) (.slice CA LC.length cc) LC.length (clCs LC) rfl (World.ownsRow.alloc (w := t1.drew) how _) t1.heap.size 1 73 #[.int .i64 1, .int .i64 x.e, .int .i64 (k : Int), .int .i64 0] rfl (Bk.new t1.drew _ _) rfl ?c1 (LC.length + 1) rfl ?c2 ?c3 ?c4 ?_
                     case c1 => simp [Value.oneCell']
                     case c2 => unfold maxLen; omega
                     case c3 => omega
                     case c4 => simp; omega
                     intro g5 cc5 w5 hown5 hg5 hat5
                     have hbk5 := ((hbk.drewN 1).alloc (.cells #[.int .i64 1, .int .i64 x.e, .int .i64 (k : Int), .int .i64 0] 73)).grown hg5 (fun e => own_ne how hbk (by decide) e.symm)
                     have e5 : w5.cell? ⟨m, 0, none⟩ = some (.slice CA LC.length cc) := hbk5.cell 0
                     have f5 : w5.frozen? ⟨m, 0, none⟩ = false := hbk5.frozen 0)
                  all_goals
                    have HRR := Lib.hid (HCLX.out t1 w5 HJ1.out (pick_4 (of_decide_eq_false HPL.out.1.symm) (of_decide_eq_false HPL.out.2.1.symm) (of_decide_eq_false HPL.out.2.2.symm)) CA cc g5 cc5 how hown5 hbk5 hg5)
                    clear e5 f5 c4 c5 c6 hown5 hbk5 hg5 hat5 how hbk
                    go_wp2_with fail
                    go_meet
                    case rel => exact HRR.out
                · go_wp2_with fail
                  go_meet
                  case rel => exact HEX.out t1 HJ1.out (pick_3 (of_decide_eq_false HPL.out.1.symm) (of_decide_eq_false HPL.out.2.1.symm) (of_decide_eq_true HPL.out.2.2.symm))
            · cases yb
              · go_wp2_with fail
                (with_reducible refine (HE2.out v3 (drew_below HB3.out ⟨0, rfl⟩)).mono ?_)
                rintro e t1 ⟨rfl, hj1⟩
                have HJ1 := Lib.hid (drew_tr ⟨0, rfl⟩ hj1)
                clear hj1
                cases d2
                · have hS7 : MgSt t1 base m LC := by obtain ⟨j, hj⟩ := HJ1.out; rw [← hj]; exact HS3.out.kx (F := []) ((Kx.refl (B := B)).drewN j) (by simp) (by simp)
                  have hC7 : CI w.heap.size t1 B o x y A n c l1 := by obtain ⟨j, hj⟩ := HJ1.out; rw [← hj]; exact HC3.out.kx (F := []) ((Kx.refl (B := B)).drewN j) (Nat.le_refl _) (by simp) (by simp) (by simp)
                  have hws7 : base ≤ t1.heap.size := by obtain ⟨j, hj⟩ := HJ1.out; rw [← hj]; exact hws
                  obtain ⟨CA, cc, hbk, how⟩ := hS7.ex
                  have c4 : t1.cell? ⟨m, 0, none⟩ = some (.slice CA LC.length cc) := hbk.cell 0
                  have c5 : t1.cell? ⟨w.heap.size + 1, 0, none⟩ = some (.int .i64 x.e) := hC7.b1.cell 0
                  have c6 : (t1.alloc (.cells #[.int .i64 1, .int .i64 x.e, .int .i64 (k : Int), .int .i64 0] 73)).cell? ⟨m, 0, none⟩ = some (.slice CA LC.length cc) := (hbk.alloc _).cell 0
                  have hql := HLl.out
                  clear hS7 hC7
                  go_wp2_with fail
                  go_region_law
                    (refine step_append_one rfl (.tmp 52) (.tmp 58) 55 rfl base 73 iC (.agg #[.int .i64 0, .int .i64 0, .int .i64 0, .int .i64 0]) 4 32 Try.underlying55 hiC hzC0 hzC1 hzC2 rfl (by decide) (.slice CA LC.length cc) LC.length (clCs LC) rfl (World.ownsRow.alloc (w := t1.drew) how _) t1.heap.size 1 73 #[.int .i64 1, .int .i64 x.e, .int .i64 (k : Int), .int .i64 0] rfl (Bk.new t1.drew _ _) rfl ?c1 (LC.length + 1) rfl ?c2 ?c3 ?c4 ?_
                     case c1 => simp [Value.oneCell']
                     case c2 => unfold maxLen; omega
                     case c3 => omega
                     case c4 => simp; omega
                     intro g5 cc5 w5 hown5 hg5 hat5
                     have hbk5 := ((hbk.drewN 1).alloc (.cells #[.int .i64 1, .int .i64 x.e, .int .i64 (k : Int), .int .i64 0] 73)).grown hg5 (fun e => own_ne how hbk (by decide) e.symm)
                     have e5 : w5.cell? ⟨m, 0, none⟩ = some (.slice CA LC.length cc) := hbk5.cell 0
                     have f5 : w5.frozen? ⟨m, 0, none⟩ = false := hbk5.frozen 0)
                  all_goals
                    have HRR := Lib.hid (HCLX.out t1 w5 HJ1.out (pick_4 (of_decide_eq_false HPL.out.1.symm) (of_decide_eq_false HPL.out.2.1.symm) (of_decide_eq_false HPL.out.2.2.symm)) CA cc g5 cc5 how hown5 hbk5 hg5)
                    clear e5 f5 c4 c5 c6 hown5 hbk5 hg5 hat5 how hbk
                    go_wp2_with fail
                    go_meet
                    case rel => exact HRR.out
                · go_wp2_with fail
                  go_meet
                  case rel => exact HEY.out t1 HJ1.out (pick_2 (of_decide_eq_false HPL.out.1.symm) (of_decide_eq_true HPL.out.2.1.symm))
              · exact absurd ⟨rfl, rfl, rfl⟩ hall
      case rest =>
        obtain ⟨b, vA, vn, vc, v, rfl, rfl, hvn, hvc, hvc2, HV, HSN, HCN, HKN⟩ := hcut
        have HL2 : Hid (compsF (k + 1) (o.cms.map Cm.p) (x.cms.map Cm.p) (y.cms.map Cm.p) = l1.map Cm.p ++ optC k (if b = true then some v else none)) := Lib.hid (by
          rw [compsF_step, ← HFF.out.1, ← HFF.out.2.1, ← HFF.out.2.2, HV.out.1, HL1.out])
        have HLN : Hid (L ++ compsC x.e (k + 1) (o.cms.map Cm.p) (x.cms.map Cm.p) (y.cms.map Cm.p) = LC ++ compC x.e k OO XX YY) := Lib.hid (by
          rw [compsC_step, ← List.append_assoc, HLC.out, HFF.out.1, HFF.out.2.1, HFF.out.2.2])
        cases b
        · have HSZ : Hid (MgSt wc base m (L ++ compsC x.e (k + 1) (o.cms.map Cm.p) (x.cms.map Cm.p) (y.cms.map Cm.p))) := Lib.hid (by rw [HLN.out]; exact HSN.out)
          have HL3 : Hid (l1.map Cm.p = compsF (k + 1) (o.cms.map Cm.p) (x.cms.map Cm.p) (y.cms.map Cm.p)) := Lib.hid (by rw [HL2.out]; simp [optC])
          go_wp2_with fail
          go_roundw
          case rel => exact ⟨k + 1, n, c, A, l1, by omega, by omega, by go_num, HCN, HL3, HSZ, HKN⟩
          case measure => simp [intOf]; omega
        · have hcl := fun wx (hb : Below wc.heap.size wc wx) => cloneInts_any vA vn vc wc.heap.size (v.map (Value.int .i64)) wx (HV.out.2.2.rd.below hb) (by intro u hu; obtain ⟨z, _, rfl⟩ := List.mem_map.1 hu; rfl) hb.size (by omega)
          have HCLN := Lib.hid hcl
          have r4 : wc.cell? ⟨w.heap.size + 4, 2, none⟩ = some (.slice A n c) := HCN.out.b4.cell 2
          have h4lt : w.heap.size + 4 < wc.heap.size := HCN.out.b4.lt
          have hn16 : n + 1 ≤ 17 := by omega
          have HB4 := Lib.hid HCN.out.b4
          have HOWN := Lib.hid HCN.out.own
          clear hcl
          go_wp2_with fail
          go_region_law
            (first
              | (go_simp
                 go_at_call 103
                 (with_reducible refine (HCLN.out _ ?hb).mono ?_)
                 case hb => (repeat' first | exact Below.refl _ _ | refine Below.drew ?_)
                 rintro e w6 ⟨A6, c6, rfl, hown6, hb6⟩
                 have hb4 := HB4.out.drew.below hb6 HB4.out.lt
                 have how6 := (Kx.of_below (B := 0) (F := []) (w := wc) (w' := w6) ⟨hb6.os, hb6.tape, hb6.output, hb6.size, hb6.block⟩).own HOWN.out (by simp)
                 have e1 : w6.cell? ⟨w.heap.size + 4, 2, none⟩ = some (.slice A n c) := hb4.cell 2
                 have e2 : (w6.alloc (.cells #[.int .i64 (k : Int), .slice A6 vn c6] 166)).cell? ⟨w.heap.size + 4, 2, none⟩ = some (.slice A n c) := (hb4.alloc _).cell 2)
              | (refine step_append_one rfl (.tmp 110) (.tmp 115) 38 rfl w.heap.size 166 i1 (.agg #[.int .i64 0, .slice none 0 0]) 2 32 Try.underlying38 hi1 hz10 hz11 hz12 rfl (by decide) (.slice A n c) n (cmCs l1) rfl (World.ownsRow.alloc (w := w6) how6 _) w6.heap.size 1 166 #[.int .i64 (k : Int), .slice A6 vn c6] rfl (Bk.new w6 _ _) rfl ?c1 (n + 1) rfl ?c2 ?c3 ?c4 ?_
                 case c1 => simp [Value.oneCell']
                 case c2 => unfold maxLen; omega
                 case c3 => omega
                 case c4 => (have := hb6.size; simp at this; simp; omega)
                 intro g7 c7 w7 hown7 hg7 hat7
                 have hb47 := (hb4.alloc (.cells #[.int .i64 (k : Int), .slice A6 vn c6] 166)).grown hg7 (fun e => own_ne how6 hb4 (by decide) e.symm)
                 have e3 : w7.cell? ⟨w.heap.size + 4, 2, none⟩ = some (.slice A n c) := hb47.cell 2
                 have f3 : w7.frozen? ⟨w.heap.size + 4, 2, none⟩ = false := hb47.frozen 2))
          all_goals
            have HDONE := Lib.hid (mcomps_step HCN.out (show Below wc.heap.size wc w6 from ⟨hb6.os, hb6.tape, hb6.output, hb6.size, hb6.block⟩) hown6 hg7 hown7 HSN.out HKN.out (v := v) (k := k) HV.out.2.1 (by omega) hB hm (by omega) rfl (by show w.heap.size ≤ wc.heap.size; omega))
            clear e1 e2 e3 f3 r4 hb4 how6 hb47 hown7 hg7 hat7 hown6 hb6
            have HSZ : Hid (MgSt (w7.setCell ⟨w.heap.size + 4, 2, none⟩ (.slice (some ⟨g7, 0, none⟩) (n + 1) c7)) base m (L ++ compsC x.e (k + 1) (o.cms.map Cm.p) (x.cms.map Cm.p) (y.cms.map Cm.p))) := Lib.hid (by rw [HLN.out]; exact HDONE.out.2.1)
            have HL3 : Hid ((l1 ++ [(⟨k, A6, vn, c6, v⟩ : Cm)]).map Cm.p = compsF (k + 1) (o.cms.map Cm.p) (x.cms.map Cm.p) (y.cms.map Cm.p)) := Lib.hid (by rw [HL2.out]; simp [optC, Cm.p])
            have HC9 := Lib.hid HDONE.out.1
            have HK9 := Lib.hid HDONE.out.2.2
            clear HDONE
            go_wp2_with fail
            go_roundw
            case rel => exact ⟨k + 1, n + 1, c7, some ⟨g7, 0, none⟩, l1 ++ [(⟨k, A6, vn, c6, v⟩ : Cm)], by omega, by omega, by go_num, HC9, HL3, HSZ, HK9⟩
            case measure => simp [intOf]; omega
    · obtain rfl : K = k := by omega
      have e0 : wr.cell? ⟨w.heap.size + 4, 0, none⟩ = some (.int .i64 x.e) := HCI.out.b4.cell 0
      have e1 : wr.cell? ⟨w.heap.size + 4, 1, none⟩ = some (.int .i64 x.g) := HCI.out.b4.cell 1
      have e2 : wr.cell? ⟨w.heap.size + 4, 2, none⟩ = some (.slice A n c) := HCI.out.b4.cell 2
      have n0 : wr.cell? ⟨w.heap.size + 3, 0, none⟩ = some (.int .i64 0) := HCI.out.b3.cell 0
      have n1 : wr.cell? ⟨w.heap.size + 3, 1, none⟩ = some (.int .i64 0) := HCI.out.b3.cell 1
      have n2 : wr.cell? ⟨w.heap.size + 3, 2, none⟩ = some (.slice none 0 0) := HCI.out.b3.cell 2
      have m0 := HCI.out.b3.frozen 0
      have m1 := HCI.out.b3.frozen 1
      have m2 := HCI.out.b3.frozen 2
      go_wp2_with fail
      (try simp only [Exit.inBlock, Exit.then])
      have hkx := Kx.set3 (B := B) (F := [147]) Kx.refl HCI.out.b3 (by omega) (by simp) 0 1 2 (.int .i64 x.e) (.int .i64 x.g) (.slice A n c)
      have hcp := own_cap2 HCI.out.own
      refine bodyPost_ret (v := .agg #[.int .i64 x.e, .int .i64 x.g, .slice A n c]) ?_ rfl ⟨A, n, c, l1, rfl, Lib.hid ⟨⟨(RdY.of_own HCI.out.own).keep hkx (by decide), HCI.out.len, hcp.1, hcp.2, fun z hz => (HCI.out.ok z hz).keep hkx (by decide)⟩, HL1.out, HCI.out.fr⟩, HST.out.kx hkx (by decide) (by decide), ((HK.out.setNew (p := w.heap.size + 3) (by omega) 0 _).setNew (p := w.heap.size + 3) (by omega) 1 _).setNew (p := w.heap.size + 3) (by omega) 2 _⟩
      rw [results_c1 rfl]
      go_simp
end Go.Proofs.Ytnidcmhfbkdioaa
