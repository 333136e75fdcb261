/-
  tourref4.Construct: one replacement, all replacements, the whole. Conditions: what is read can be read; valid kinds and templates.
-/
import Derived.Test.YtnidcmhfbkdioaaTa
namespace Go.Proofs.Ytnidcmhfbkdioaa
open Go.RowKit
set_option maxRecDepth 100000

/-! ### Sf -/
theorem find_uniq {α : Type} {p : α → Bool} {l : List α} {x : α} (hx : x ∈ l) (hp : p x = true) (hu : ∀ y ∈ l, p y = true → y = x) : l.find? p = some x := by
  cases h : l.find? p with
  | none => exact absurd hp (List.find?_eq_none.1 h x hx)
  | some y => rw [hu y (List.mem_of_find?_eq_some h) (List.find?_some h)]
/-- Each path once, each kind of an entity once. -/
structure UqB (l : List Bt) : Prop where
  path : (l.map Bt.p).Pairwise fun a b => a.1 ≠ b.1
  kind : ∀ x ∈ l, (x.cms.map Cm.p).Pairwise fun a b => a.1 ≠ b.1
theorem pw_ne {α β : Type} {f : α → β} {l : List α} (h : l.Pairwise fun a b => f a ≠ f b) {i j : Nat} {x y : α} (hi : l[i]? = some x) (hj : l[j]? = some y) (e : f x = f y) : i = j := by
  obtain ⟨p, rfl⟩ := List.getElem?_eq_some_iff.1 hi
  obtain ⟨q, rfl⟩ := List.getElem?_eq_some_iff.1 hj
  rcases Nat.lt_trichotomy i j with hlt | heq | hgt
  · exact absurd e (List.pairwise_iff_getElem.1 h i j p q hlt)
  · exact heq
  · exact absurd e.symm (List.pairwise_iff_getElem.1 h j i q p hgt)
theorem UqB.ij {l : List Bt} (h : UqB l) {i j : Nat} {x y : Bt} (hi : l[i]? = some x) (hj : l[j]? = some y) (e : x.path = y.path) : i = j := by
  have h1 := h.path
  rw [List.pairwise_map] at h1
  exact pw_ne (f := fun b : Bt => b.path) h1 hi hj e
theorem UqB.kj {l : List Bt} (h : UqB l) {i j j' : Nat} {x : Bt} {c d : Cm} (hx : l[i]? = some x) (hc : x.cms[j]? = some c) (hd : x.cms[j']? = some d) (e : c.k = d.k) : j = j' := by
  have h1 := h.kind x (List.mem_of_getElem? hx)
  rw [List.pairwise_map] at h1
  exact pw_ne (f := fun b : Cm => b.k) h1 hc hd e
theorem UqB.of {ks : List Kp2} {l : List Bt} (h : LexP (l.map Bt.p)) (hv : ∀ b ∈ l.map Bt.p, VCs holdK ks b.2) : UqB l :=
  ⟨h.ne, fun x hx => ((hv x.p (List.mem_map_of_mem hx)).sorted).imp fun {a b} hab => by
    intro e; rw [e] at hab; exact Int.lt_irrefl _ hab⟩
/-- Behind the components ahead of place (i, j): nothing was found, or one component was changed. -/
def OvSt (ks : List Kp2) (l0 l : List Bt) (o : Ov) (e : Int) (i j : Nat) : Prop :=
  (e = 4 ∧ l = l0 ∧ ∀ (i' j' : Nat) (x : Bt) (cm : Cm), (i' < i ∨ (i' = i ∧ j' < j)) → l0[i']? = some x → x.cms[j']? = some cm → ¬ Grd x cm o) ∨
  (e = 0 ∧ ∃ (i0 j0 : Nat) (x0 : Bt) (cm0 : Cm), (i0 < i ∨ (i0 = i ∧ j0 < j)) ∧ l0[i0]? = some x0 ∧ x0.cms[j0]? = some cm0 ∧ Grd x0 cm0 o ∧ fitV ks o.K (cm0.vals.set o.F.toNat o.V) = 0 ∧ l = l0.set i0 (x0.hit j0 cm0 o))
theorem OvSt.start (ks : List Kp2) (l : List Bt) (o : Ov) : OvSt ks l l o 4 0 0 := .inl ⟨rfl, rfl, fun i' j' x cm h => by omega⟩
theorem OvSt.no {ks : List Kp2} {l0 l : List Bt} {o : Ov} {e : Int} {i j : Nat} {x : Bt} {cm : Cm} (h : OvSt ks l0 l o e i j) (hx : l[i]? = some x) (hc : x.cms[j]? = some cm) (hg : ¬ Grd x cm o) : OvSt ks l0 l o e i (j + 1) := by
  rcases h with ⟨h1, h2, h3⟩ | ⟨h1, i0, j0, x0, cm0, h2, h3⟩
  · subst h2
    refine .inl ⟨h1, rfl, fun i' j' y d hij hy hd => ?_⟩
    by_cases he : i' = i ∧ j' = j
    · obtain ⟨rfl, rfl⟩ := he
      rw [hx] at hy
      injection hy with hy
      subst hy
      rw [hc] at hd
      injection hd with hd
      subst hd
      exact hg
    · exact h3 i' j' y d (by omega) hy hd
  · exact .inr ⟨h1, i0, j0, x0, cm0, by omega, h3⟩
/-- What was changed once is not found again. -/
theorem OvSt.fresh {ks : List Kp2} {l0 l : List Bt} {o : Ov} {e : Int} {i j : Nat} {x : Bt} {cm : Cm} (hu : UqB l0) (h : OvSt ks l0 l o e i j) (hx : l[i]? = some x) (hc : x.cms[j]? = some cm) (hg : Grd x cm o) : e = 4 ∧ l = l0 := by
  rcases h with ⟨h1, h2, _⟩ | ⟨h1, i0, j0, x0, cm0, h2, h3, h4, h5, h6, rfl⟩
  · exact ⟨h1, h2⟩
  · exfalso
    by_cases hi : i0 = i
    · subst hi
      rw [List.getElem?_set_self (List.getElem?_eq_some_iff.1 h3).1] at hx
      injection hx with hx
      subst hx
      have hj : j0 ≠ j := by omega
      have hc' : x0.cms[j]? = some cm := by
        have h9 : (x0.cms.set j0 (cm0.hit o))[j]? = some cm := hc
        rw [List.getElem?_set_ne hj] at h9; exact h9
      exact hj (hu.kj h3 h4 hc' (h5.2.1.trans hg.2.1.symm))
    · rw [List.getElem?_set_ne hi] at hx
      exact hi (hu.ij h3 hx (h5.1.trans hg.1.symm))
theorem OvSt.hit {ks : List Kp2} {l0 l : List Bt} {o : Ov} {e : Int} {i j : Nat} {x : Bt} {cm : Cm} (hu : UqB l0) (h : OvSt ks l0 l o e i j) (hx : l[i]? = some x) (hc : x.cms[j]? = some cm) (hg : Grd x cm o) (hf : fitV ks o.K (cm.vals.set o.F.toNat o.V) = 0) : OvSt ks l0 (l.set i (x.hit j cm o)) o 0 i (j + 1) := by
  obtain ⟨rfl, rfl⟩ := h.fresh hu hx hc hg
  exact .inr ⟨rfl, i, j, x, cm, by omega, hx, hc, hg, hf, rfl⟩
theorem OvSt.next {ks : List Kp2} {l0 l : List Bt} {o : Ov} {e : Int} {i j : Nat} {x : Bt} (h : OvSt ks l0 l o e i j) (hx : l[i]? = some x) (hj : x.cms.length ≤ j) : OvSt ks l0 l o e (i + 1) 0 := by
  rcases h with ⟨h1, h2, h3⟩ | ⟨h1, i0, j0, x0, cm0, h2, h3⟩
  · subst h2
    refine .inl ⟨h1, rfl, fun i' j' y d hij hy hd => ?_⟩
    by_cases he : i' = i
    · subst he
      rw [hx] at hy
      injection hy with hy
      subst hy
      exact h3 i' j' x d (by have := (List.getElem?_eq_some_iff.1 hd).1; omega) hx hd
    · exact h3 i' j' y d (by omega) hy hd
  · exact .inr ⟨h1, i0, j0, x0, cm0, by omega, h3⟩
theorem mem_p {l : List Bt} {y : Blt} (h : y ∈ l.map Bt.p) : ∃ (i : Nat) (x : Bt), l[i]? = some x ∧ x.p = y := by
  obtain ⟨x, hx, e⟩ := List.mem_map.1 h
  obtain ⟨i, hi⟩ := List.mem_iff_getElem?.1 hx
  exact ⟨i, x, hi, e⟩
theorem mem_pc {l : List Cm} {y : Int × List Int} (h : y ∈ l.map Cm.p) : ∃ (i : Nat) (x : Cm), l[i]? = some x ∧ x.p = y := by
  obtain ⟨x, hx, e⟩ := List.mem_map.1 h
  obtain ⟨i, hi⟩ := List.mem_iff_getElem?.1 hx
  exact ⟨i, x, hi, e⟩
theorem find_path {l : List Bt} (hu : UqB l) {i : Nat} {x : Bt} {path : List Int} (hx : l[i]? = some x) (hp : x.path = path) : (l.map Bt.p).find? (fun b => decide (b.1 = path)) = some x.p :=
  find_uniq (List.mem_map_of_mem (List.mem_of_getElem? hx)) (decide_eq_true hp) fun y hy h => by
    obtain ⟨i', x', hx', rfl⟩ := mem_p hy
    have h : x'.path = path := of_decide_eq_true h
    have e := hu.ij hx hx' (hp.trans h.symm)
    subst e
    rw [hx] at hx'
    injection hx' with hx'
    rw [hx']
theorem find_kind {l : List Bt} (hu : UqB l) {i j : Nat} {x : Bt} {cm : Cm} {K : Int} (hx : l[i]? = some x) (hc : x.cms[j]? = some cm) (hk : cm.k = K) : x.p.2.find? (fun c => decide (c.1 = K)) = some cm.p :=
  find_uniq (List.mem_map_of_mem (List.mem_of_getElem? hc)) (decide_eq_true hk) fun y hy h => by
    obtain ⟨j', c', hc', rfl⟩ := mem_pc hy
    have h : c'.k = K := of_decide_eq_true h
    have e := hu.kj hx hc hc' (hk.trans h.symm)
    subst e
    rw [hc] at hc'
    injection hc' with hc'
    rw [hc']
/-- The fault of a replacement whose component was found. -/
theorem ovCode_grd {ks : List Kp2} {l : List Bt} (hu : UqB l) {i j : Nat} {x : Bt} {cm : Cm} {o : Ov} (hx : l[i]? = some x) (hc : x.cms[j]? = some cm) (hg : Grd x cm o) : ovCode ks (l.map Bt.p) o.path o.K o.F o.V = fitV ks o.K (cm.vals.set o.F.toNat o.V) := by
  unfold ovCode
  rw [find_path hu hx hg.1]
  dsimp only
  rw [find_kind hu hx hc hg.2.1]
  dsimp only
  have h1 := hg.2.2.1
  have h2 : o.F < (cm.p.2.length : Int) := hg.2.2.2
  rw [if_neg (by omega)]
  rfl
theorem ovSet_grd {l : List Bt} (hu : UqB l) {i j : Nat} {x : Bt} {cm : Cm} {o : Ov} (hx : l[i]? = some x) (hc : x.cms[j]? = some cm) (hg : Grd x cm o) : (l.set i (x.hit j cm o)).map Bt.p = ovSet (l.map Bt.p) o.path o.K o.F o.V := by
  have h1 : modF (fun c : Int × List Int => decide (c.1 = o.K)) (fun c => (c.1, c.2.set o.F.toNat o.V)) (x.cms.map Cm.p) = (x.cms.map Cm.p).set j (cm.p.1, cm.p.2.set o.F.toNat o.V) :=
    modF_hit (by rw [List.getElem?_map, hc]; rfl) (decide_eq_true hg.2.1) fun j' y hj hy => by
      rw [List.getElem?_map] at hy
      cases hd : x.cms[j']? with
      | none => rw [hd] at hy; cases hy
      | some d =>
        rw [hd] at hy
        injection hy with hy
        subst hy
        refine decide_eq_false fun h9 => ?_
        have := hu.kj hx hc hd (hg.2.1.trans (show d.k = o.K from h9).symm)
        omega
  unfold ovSet
  have h2 := modF_hit (p := fun b : Blt => decide (b.1 = o.path)) (f := fun b : Blt => (b.1, modF (fun c => decide (c.1 = o.K)) (fun c => (c.1, c.2.set o.F.toNat o.V)) b.2)) (l := l.map Bt.p) (i := i) (x := x.p) (by rw [List.getElem?_map, hx]; rfl) (decide_eq_true hg.1) fun j' y hj hy => by
      rw [List.getElem?_map] at hy
      cases hd : l[j']? with
      | none => rw [hd] at hy; cases hy
      | some d =>
        rw [hd] at hy
        injection hy with hy
        subst hy
        refine decide_eq_false fun h9 => ?_
        have := hu.ij hx hd (hg.1.trans (show d.path = o.path from h9).symm)
        omega
  rw [h2, List.map_set]
  refine congrArg (fun z => (l.map Bt.p).set i z) ?_
  show (x.path, (x.cms.set j (cm.hit o)).map Cm.p) = (x.path, _)
  refine congrArg (fun z => (x.path, z)) ?_
  show _ = modF _ _ (x.cms.map Cm.p)
  rw [h1, List.map_set]
  rfl
theorem OvSt.code {ks : List Kp2} {l0 l : List Bt} {o : Ov} {e : Int} {i : Nat} (hu : UqB l0) (h : OvSt ks l0 l o e i 0) (hi : l0.length ≤ i) : ovCode ks (l0.map Bt.p) o.path o.K o.F o.V = e := by
  rcases h with ⟨h1, h2, h3⟩ | ⟨h1, i0, j0, x0, cm0, h2, h3, h4, h5, h6, h7⟩
  · subst h1
    unfold ovCode
    cases hf : (l0.map Bt.p).find? (fun x => decide (x.1 = o.path)) with
    | none => rfl
    | some b =>
      obtain ⟨i', x, hx, rfl⟩ := mem_p (List.mem_of_find?_eq_some hf)
      have hp : x.path = o.path := by have h := List.find?_some hf; exact of_decide_eq_true h
      dsimp only
      cases hc : x.p.2.find? (fun c => decide (c.1 = o.K)) with
      | none => rfl
      | some c =>
        obtain ⟨j', cm, hcm, rfl⟩ := mem_pc (List.mem_of_find?_eq_some hc)
        have hk : cm.k = o.K := by have h := List.find?_some hc; exact of_decide_eq_true h
        dsimp only
        rw [if_pos]
        have hl := (List.getElem?_eq_some_iff.1 hx).1
        have h9 := h3 i' j' x cm (by omega) hx hcm
        by_cases hF : o.F < 0
        · exact .inl hF
        · refine .inr (Int.not_lt.1 fun h8 => h9 ⟨hp, hk, by omega, h8⟩)
  · rw [h1, ovCode_grd hu h3 h4 h5, h6]
theorem OvSt.set {ks : List Kp2} {l0 l : List Bt} {o : Ov} {i j : Nat} (hu : UqB l0) (h : OvSt ks l0 l o 0 i j) : l.map Bt.p = ovSet (l0.map Bt.p) o.path o.K o.F o.V := by
  rcases h with ⟨h1, _⟩ | ⟨_, i0, j0, x0, cm0, h2, h3, h4, h5, h6, h7⟩
  · cases h1
  · rw [h7]; exact ovSet_grd hu h3 h4 h5
/-- All entities stay valid. -/
theorem OvSt.valid {ks : List Kp2} {l0 l : List Bt} {o : Ov} {e : Int} {i j : Nat} (hu : UqB l0) (hv : ∀ b ∈ l0.map Bt.p, VCs holdK ks b.2) (h : OvSt ks l0 l o e i j) : ∀ b ∈ l.map Bt.p, VCs holdK ks b.2 := by
  have h0 := h
  rcases h with ⟨h1, h2, _⟩ | ⟨h1, i0, j0, x0, cm0, h2, h3, h4, h5, h6, h7⟩
  · rw [h2]; exact hv
  · subst h1
    rw [h0.set hu]
    exact ovSet_valid (by rw [ovCode_grd hu h3 h4 h5]; exact h6) hv
theorem OvSt.len {ks : List Kp2} {l0 l : List Bt} {o : Ov} {e : Int} {i j : Nat} (h : OvSt ks l0 l o e i j) : l.length = l0.length := by
  rcases h with ⟨_, h2, _⟩ | ⟨_, i0, j0, x0, cm0, _, _, _, _, _, h7⟩
  · rw [h2]
  · rw [h7, List.length_set]
theorem OvSt.cases {ks : List Kp2} {l0 l : List Bt} {o : Ov} {e : Int} {i j : Nat} (h : OvSt ks l0 l o e i j) : e = 4 ∨ e = 0 := by
  rcases h with ⟨h1, _⟩ | ⟨h1, _⟩
  · exact .inl h1
  · exact .inr h1

/-! ### Sg -/
/-- Where an entity's rows lie. -/
def SmT (x : Bt) (pA : Option Addr) (pn pc : Nat) (cA : Option Addr) (cn cc : Nat) : Prop := x.pA = pA ∧ x.pn = pn ∧ x.pc = pc ∧ x.cA = cA ∧ x.cn = cn ∧ x.cc = cc
noncomputable def ctEnt : Code := (Try.f72.body.bind (blkB 7)).getD .skip

set_option maxHeartbeats 8000000 in
theorem ctEnt_any {x1 x2 x3 x4 x5 x6 x7 x8 x9 x10 x11 x12 x13 x14 x15 x16 x17 x20 x21 x22 x23 x24 x25 x26 x27 x28 x29 x30 x31 x32 x33 x34 x35 x36 x37 x38 x39 x40 x41 x42 x43 x44 x45 x46 x47 x48 x49 x50 x51 x52 x53 x54 x55 x56 x57 x58 x59 x60 x61 x62 x63 x64 x65 x66 x67 x68 x69 x70 x71 x72 x73 x74 x75 x76 x77 x78 x79 x80 x81 x82 x83 x84 x85 x86 x87 x88 x90 x92 x93 x94 x95 x96 x97 x98 x99 x100 x101 x102 x103 x104 x105 x106 x107 x108 x109 x110 x111 x112 x113 x114 x115 x116 x117 x118 x119 x120 x121 x122 x123 x124 x125 x126 x127 x128 x129 x130 x131 x132 x133 x134 x135 x136 x137 x138 x139 x140 x141 x142 x143 x144 x145 x146 x147 x148 x149 x150 x151 x152 x153 x154 x155 x156 x157 x158 x159 x160 x161 x162 x163 x164 x165 x166 x167 x168 x169 x170 x171 x172 x173 x174 x175 x176 x177 x178 : Value} {Q : Exit → Act → World → Prop} {w0 : World} {B base kn kc m c i ho : Nat} {kA A : Option Addr} {ks : List Kd} {l0 l : List Bt} {o : Ov} {e : Int}
    (hkd : KsOk w0 B kA kn kc ks) (hone : Hid (∀ k ∈ ks, oneF k.nm k.fds = 0)) (hI : CnI w0 base ks A m c l) (hu : UqB l0) (hv : ∀ b ∈ l0.map Bt.p, VCs holdK (ks.map Kd.p) b.2) (hst : OvSt (ks.map Kd.p) l0 l o e i 0) (him : i < m) (hbo : Bk w0 ho 158 #[.slice o.pA o.pn o.pc, .int .i64 o.K, .int .i64 o.F, .int .i64 o.V]) (hov : OvOk w0 B o) (hB : B ≤ base) (hbase : base ≤ w0.heap.size)
    (hN : ∀ (y8 y9 y21 y22 y23 y24 y93 y94 y95 y96 y97 y98 y99 y100 y101 y102 y103 y104 y105 y106 y107 y108 y109 y110 y111 y112 y113 y114 y115 y116 y117 y118 y119 y120 y121 y122 y123 y124 y125 y126 y127 y128 y129 y130 y131 y132 y133 y134 y135 y136 y137 y138 y139 y140 y141 y142 y143 y144 y145 y146 y147 y148 y149 y150 y151 y152 y153 y154 y155 y156 y157 y158 y159 y160 y161 y162 y163 y164 y165 y166 y167 y168 y169 y170 y171 y172 : Value) (e1 : Int) (w' : World), Hid ((∃ l1, CnI w' base ks A m c l1 ∧ OvSt (ks.map Kd.p) l0 l1 o e1 (i + 1) 0) ∧ Kx 0 [3] w0 w' ∧ Below base w0 w') → Q .normal ⟨#[.slice kA kn kc, x1, x2, x3, x4, x5, x6, x7, y8, y9, x10, x11, x12, x13, x14, x15, x16, x17, .pointer (some ⟨ho, 0, none⟩), .int .i64 e1, x20, y21, y22, y23, y24, x25, x26, x27, x28, x29, x30, x31, x32, x33, x34, x35, x36, x37, x38, x39, x40, x41, x42, x43, x44, x45, x46, x47, x48, x49, x50, x51, x52, x53, x54, x55, x56, x57, x58, x59, x60, x61, x62, x63, x64, x65, x66, x67, x68, x69, x70, x71, x72, x73, x74, x75, x76, x77, x78, x79, x80, x81, x82, x83, x84, x85, x86, x87, x88, .slice A m c, x90, .int .i64 (i : Int), x92, y93, y94, y95, y96, y97, y98, y99, y100, y101, y102, y103, y104, y105, y106, y107, y108, y109, y110, y111, y112, y113, y114, y115, y116, y117, y118, y119, y120, y121, y122, y123, y124, y125, y126, y127, y128, y129, y130, y131, y132, y133, y134, y135, y136, y137, y138, y139, y140, y141, y142, y143, y144, y145, y146, y147, y148, y149, y150, y151, y152, y153, y154, y155, y156, y157, y158, y159, y160, y161, y162, y163, y164, y165, y166, y167, y168, y169, y170, y171, y172, x173, x174, x175, x176, x177, x178], []⟩ w')
    (hErr : ∀ (y21 y22 y23 y24 y93 y94 y95 y96 y97 y98 y99 y100 y101 y102 y103 y104 y105 y106 y107 y108 y109 y110 y111 y112 y113 y114 y115 y116 y117 y118 y119 y120 y121 y122 y123 y124 y125 y126 y127 y128 y129 y130 y131 y132 y133 y134 y135 y136 y137 y138 y139 y140 y141 y142 y143 y144 y145 y146 y147 y148 y149 y150 y151 y152 y153 y154 y155 y156 y157 y158 y159 y160 y161 y162 y163 y164 y165 y166 y167 y168 y169 y170 y171 y172 : Value) (e1 : Int) (w' : World), Hid (ovCode (ks.map Kd.p) (l0.map Bt.p) o.path o.K o.F o.V = 1 ∧ Below base w0 w') → Q .ret ⟨#[.slice kA kn kc, x1, x2, x3, x4, x5, x6, x7, .slice none 0 0, .int .i64 1, x10, x11, x12, x13, x14, x15, x16, x17, .pointer (some ⟨ho, 0, none⟩), .int .i64 e1, x20, y21, y22, y23, y24, x25, x26, x27, x28, x29, x30, x31, x32, x33, x34, x35, x36, x37, x38, x39, x40, x41, x42, x43, x44, x45, x46, x47, x48, x49, x50, x51, x52, x53, x54, x55, x56, x57, x58, x59, x60, x61, x62, x63, x64, x65, x66, x67, x68, x69, x70, x71, x72, x73, x74, x75, x76, x77, x78, x79, x80, x81, x82, x83, x84, x85, x86, x87, x88, .slice A m c, x90, .int .i64 (i : Int), x92, y93, y94, y95, y96, y97, y98, y99, y100, y101, y102, y103, y104, y105, y106, y107, y108, y109, y110, y111, y112, y113, y114, y115, y116, y117, y118, y119, y120, y121, y122, y123, y124, y125, y126, y127, y128, y129, y130, y131, y132, y133, y134, y135, y136, y137, y138, y139, y140, y141, y142, y143, y144, y145, y146, y147, y148, y149, y150, y151, y152, y153, y154, y155, y156, y157, y158, y159, y160, y161, y162, y163, y164, y165, y166, y167, y168, y169, y170, y171, y172, x173, x174, x175, x176, x177, x178], []⟩ w') :
    Code.wp Try.prog ctEnt Q ⟨#[.slice kA kn kc, x1, x2, x3, x4, x5, x6, x7, x8, x9, x10, x11, x12, x13, x14, x15, x16, x17, .pointer (some ⟨ho, 0, none⟩), .int .i64 e, x20, x21, x22, x23, x24, x25, x26, x27, x28, x29, x30, x31, x32, x33, x34, x35, x36, x37, x38, x39, x40, x41, x42, x43, x44, x45, x46, x47, x48, x49, x50, x51, x52, x53, x54, x55, x56, x57, x58, x59, x60, x61, x62, x63, x64, x65, x66, x67, x68, x69, x70, x71, x72, x73, x74, x75, x76, x77, x78, x79, x80, x81, x82, x83, x84, x85, x86, x87, x88, .slice A m c, x90, .int .i64 (i : Int), x92, x93, x94, x95, x96, x97, x98, x99, x100, x101, x102, x103, x104, x105, x106, x107, x108, x109, x110, x111, x112, x113, x114, x115, x116, x117, x118, x119, x120, x121, x122, x123, x124, x125, x126, x127, x128, x129, x130, x131, x132, x133, x134, x135, x136, x137, x138, x139, x140, x141, x142, x143, x144, x145, x146, x147, x148, x149, x150, x151, x152, x153, x154, x155, x156, x157, x158, x159, x160, x161, x162, x163, x164, x165, x166, x167, x168, x169, x170, x171, x172, x173, x174, x175, x176, x177, x178], []⟩ w0 := by
  conv => arg 2; whnf
  obtain ⟨x, hx⟩ : ∃ x, l[i]? = some x := ⟨_, List.getElem?_eq_getElem (by have := hI.len; omega)⟩
  have hxm := List.mem_of_getElem? hx
  obtain ⟨b, ob, hAe, hbb, q0, q1⟩ := Rd.btS hI.own him hx
  have hxY := hI.ok x hxm
  have hiz : (i : Int) < m := by omega
  have hiz0 : (0 : Int) ≤ i := by omega
  have hxcap := hxY.ccap
  have hxcap2 := hxY.ccap2
  have HCL : Hid (x.cn = x.cms.length) := Lib.hid hxY.clen
  obtain ⟨W1, hW1⟩ : ∃ W1, W1 = w0.alloc (.cells #[.slice x.pA x.pn x.pc, .slice x.cA x.cn x.cc] 40) := ⟨_, rfl⟩
  obtain ⟨hb, hhe⟩ : ∃ hb, hb = w0.heap.size := ⟨_, rfl⟩
  have hb1 : Below w0.heap.size w0 W1 := by rw [hW1]; exact (Below.refl _ _).alloc (Nat.le_refl _) _
  have HBB : Hid (Bk W1 hb 40 #[.slice x.pA x.pn x.pc, .slice x.cA x.cn x.cc]) := Lib.hid (by rw [hW1, hhe]; exact Bk.new _ _ _)
  have HKD : Hid (KsOk W1 B kA kn kc ks) := Lib.hid (hkd.below (hb1.mono (Nat.le_trans hB hbase)))
  have HOV : Hid (OvOk W1 B o) := Lib.hid (hov.below (hb1.mono (Nat.le_trans hB hbase)))
  have HBO : Hid (Bk W1 ho 158 #[.slice o.pA o.pn o.pc, .int .i64 o.K, .int .i64 o.F, .int .i64 o.V]) := Lib.hid (hbo.below hb1 hbo.lt)
  have HI : Hid (∃ l1, CnI W1 base ks A m c l1 ∧ OvSt (ks.map Kd.p) l0 l1 o e i 0 ∧ ∃ x1, l1[i]? = some x1 ∧ SmT x1 x.pA x.pn x.pc x.cA x.cn x.cc) := Lib.hid ⟨l, hI.keepB hb1, hst, x, hx, rfl, rfl, rfl, rfl, rfl, rfl⟩
  have HKX : Hid (Kx 0 [3] W1 W1 ∧ Below base W1 W1) := Lib.hid ⟨Kx.refl, Below.refl _ _⟩
  have HB1 : Hid (Kx 0 [3] w0 W1 ∧ Below base w0 W1) := Lib.hid ⟨Kx.of_below hb1, hb1.mono hbase⟩
  have HBZ : Hid (base ≤ W1.heap.size) := Lib.hid (Nat.le_trans hbase hb1.size)
  have HU := Lib.hid hu
  have HV := Lib.hid hv
  have HW1 := Lib.hid (And.intro hW1 hhe)
  subst hAe
  clear hkd hov hbo hI hst hx hxm hxY hbb hb1 hhe hu hv hW1
  generalize x.pA = xpA at *
  generalize x.pn = xpn at *
  generalize x.pc = xpc at *
  generalize x.cA = xcA at *
  generalize x.cn = xcn at *
  generalize x.cc = xcc at *
  go_upto_region 25 with fail
  rw [← HW1.out.1, ← HW1.out.2]
  have z1 : W1.cell? ⟨hb, 1, none⟩ = some (.slice xcA xcn xcc) := HBB.out.cell 1
  clear q0 q1
  go_wp2_with fail
  go_loopw [19, 98] (fun dv jv wx => ∃ (j : Nat) (e1 : Int), j ≤ xcn ∧ jv = .int .i64 j ∧ dv = .int .i64 e1 ∧ Hid (∃ l1, CnI wx base ks (some ⟨b, ob, none⟩) m c l1 ∧ OvSt (ks.map Kd.p) l0 l1 o e1 i j ∧ ∃ x1, l1[i]? = some x1 ∧ SmT x1 xpA xpn xpc xcA xcn xcc) ∧ Hid (Kx 0 [3] W1 wx ∧ Below base W1 wx)) (fun _ jv _ => xcn - (intOf jv).toNat)
  case atStart => exact ⟨0, e, Nat.zero_le _, rfl, rfl, HI, HKX⟩
  case round =>
    clear HI HKX z1
    obtain ⟨j, e1, hj, rfl, rfl, HI, HKX⟩ := hrel
    obtain ⟨l1, hI1, hst1, x1, hx1, hs1⟩ := HI.out
    have hx1Y := hI1.ok x1 (List.mem_of_getElem? hx1)
    by_cases hlt : j < xcn
    · obtain ⟨cm, hc⟩ : ∃ cm, x1.cms[j]? = some cm := ⟨_, List.getElem?_eq_getElem (by have := hx1Y.clen; have := hs1.2.2.2.2.1; omega)⟩
      have hjz : (j : Int) < xcn := by omega
      have hjz0 : (0 : Int) ≤ j := by omega
      have HKDr := Lib.hid (HKD.out.below (HKX.out.2.mono hB))
      have HOVr := Lib.hid (HOV.out.below (HKX.out.2.mono hB))
      have HBOr : Hid (Bk wr ho 158 #[.slice o.pA o.pn o.pc, .int .i64 o.K, .int .i64 o.F, .int .i64 o.V]) := Lib.hid (HKX.out.1.bk HBO.out (by decide))
      have HBBr : Hid (Bk wr hb 40 #[.slice x1.pA x1.pn x1.pc, .slice x1.cA x1.cn x1.cc]) := Lib.hid (by
        rw [hs1.1, hs1.2.1, hs1.2.2.1, hs1.2.2.2.1, hs1.2.2.2.2.1, hs1.2.2.2.2.2]
        exact HKX.out.1.bk HBB.out (by decide))
      have HVr : Hid (VCs holdK (ks.map Kd.p) (x1.cms.map Cm.p)) := Lib.hid (hst1.valid HU.out HV.out x1.p (List.mem_map_of_mem (List.mem_of_getElem? hx1)))
      have HSZ : Hid (B ≤ wr.heap.size ∧ base ≤ wr.heap.size) := Lib.hid (by have := HBZ.out; have := HKX.out.2.size; omega)
      have HP := Lib.hid (And.intro hI1 (And.intro hst1 (And.intro hx1 (And.intro hs1 hc))))
      clear hI1 hst1 hx1 hs1 hc hx1Y HI
      go_upto_if 99 with fail
      first
        | (go_step; refine ctOne_any HKDr.out hone HP.out.1 HP.out.2.2.1 HP.out.2.2.2.2 HVr.out HBOr.out HOVr.out HBBr.out HSZ.out.1 HP.out.2.2.2.1.2.2.2.1.symm HP.out.2.2.2.1.2.2.2.2.1.symm HP.out.2.2.2.1.2.2.2.2.2.symm HSZ.out.2 ?_ ?_ ?_)
        | (go_step; go_step; refine ctOne_any HKDr.out hone HP.out.1 HP.out.2.2.1 HP.out.2.2.2.2 HVr.out HBOr.out HOVr.out HBBr.out HSZ.out.1 HP.out.2.2.2.1.2.2.2.1.symm HP.out.2.2.2.1.2.2.2.2.1.symm HP.out.2.2.2.1.2.2.2.2.2.symm HSZ.out.2 ?_ ?_ ?_)
        | (go_step; go_step; go_step; refine ctOne_any HKDr.out hone HP.out.1 HP.out.2.2.1 HP.out.2.2.2.2 HVr.out HBOr.out HOVr.out HBBr.out HSZ.out.1 HP.out.2.2.2.1.2.2.2.1.symm HP.out.2.2.2.1.2.2.2.2.1.symm HP.out.2.2.2.1.2.2.2.2.2.symm HSZ.out.2 ?_ ?_ ?_)
        | (go_step; go_step; go_step; go_step; refine ctOne_any HKDr.out hone HP.out.1 HP.out.2.2.1 HP.out.2.2.2.2 HVr.out HBOr.out HOVr.out HBBr.out HSZ.out.1 HP.out.2.2.2.1.2.2.2.1.symm HP.out.2.2.2.1.2.2.2.2.1.symm HP.out.2.2.2.1.2.2.2.2.2.symm HSZ.out.2 ?_ ?_ ?_)
        | (go_step; go_step; go_step; go_step; go_step; refine ctOne_any HKDr.out hone HP.out.1 HP.out.2.2.1 HP.out.2.2.2.2 HVr.out HBOr.out HOVr.out HBBr.out HSZ.out.1 HP.out.2.2.2.1.2.2.2.1.symm HP.out.2.2.2.1.2.2.2.2.1.symm HP.out.2.2.2.1.2.2.2.2.2.symm HSZ.out.2 ?_ ?_ ?_)
      · intros
        rename_i w2 H2
        have HR : Hid (∃ l2, CnI w2 base ks (some ⟨b, ob, none⟩) m c l2 ∧ OvSt (ks.map Kd.p) l0 l2 o e1 i (j + 1) ∧ ∃ x2, l2[i]? = some x2 ∧ SmT x2 xpA xpn xpc xcA xcn xcc) := Lib.hid ⟨l1, HP.out.1.keepB H2.out.1, HP.out.2.1.no HP.out.2.2.1 HP.out.2.2.2.2 H2.out.2, x1, HP.out.2.2.1, HP.out.2.2.2.1⟩
        have HK2 : Hid (Kx 0 [3] W1 w2 ∧ Below base W1 w2) := Lib.hid ⟨HKX.out.1.below H2.out.1, HKX.out.2.trans (H2.out.1.mono HSZ.out.2)⟩
        clear HP H2 HKX HKDr HOVr HBOr HBBr HVr HSZ
        go_wp2_with fail
        go_roundw
        case measure => simp [intOf]; omega
        case rel => exact ⟨j + 1, e1, by omega, by go_num, rfl, HR, HK2⟩
      · intros
        rename_i w2 H2
        obtain ⟨hg2, hf2, hI2, hk2, hb2⟩ := H2.out
        have HR : Hid (∃ l2, CnI w2 base ks (some ⟨b, ob, none⟩) m c l2 ∧ OvSt (ks.map Kd.p) l0 l2 o 0 i (j + 1) ∧ ∃ x2, l2[i]? = some x2 ∧ SmT x2 xpA xpn xpc xcA xcn xcc) := Lib.hid ⟨_, hI2, HP.out.2.1.hit HU.out HP.out.2.2.1 HP.out.2.2.2.2 hg2 hf2, x1.hit j cm o, List.getElem?_set_self (List.getElem?_eq_some_iff.1 HP.out.2.2.1).1, HP.out.2.2.2.1⟩
        have HK2 : Hid (Kx 0 [3] W1 w2 ∧ Below base W1 w2) := Lib.hid ⟨HKX.out.1.trans hk2, HKX.out.2.trans hb2⟩
        clear HP H2 HKX HKDr HOVr HBOr HBBr HVr HSZ hg2 hf2 hI2 hk2 hb2
        go_wp2_with fail
        go_roundw
        case measure => simp [intOf]; omega
        case rel => exact ⟨j + 1, 0, by omega, by go_num, rfl, HR, HK2⟩
      · intros
        rename_i w2 H2
        have HR : Hid (ovCode (ks.map Kd.p) (l0.map Bt.p) o.path o.K o.F o.V = 1 ∧ Below base w0 w2) := Lib.hid (by
          obtain ⟨_, he⟩ := HP.out.2.1.fresh HU.out HP.out.2.2.1 HP.out.2.2.2.2 H2.out.2.1
          refine ⟨?_, HB1.out.2.trans (HKX.out.2.trans (H2.out.1.mono HSZ.out.2))⟩
          have hx0 := HP.out.2.2.1
          rw [he] at hx0
          rw [ovCode_grd HU.out hx0 HP.out.2.2.2.2 H2.out.2.1]
          exact H2.out.2.2)
        clear HP H2 HKX HKDr HOVr HBOr HBBr HVr HSZ
        go_wp2_with fail
        first
          | exact HR
          | exact hErr _ _ _ _ _ _ _ _ _ _ _ _ _ _ _ _ _ _ _ _ _ _ _ _ _ _ _ _ _ _ _ _ _ _ _ _ _ _ _ _ _ _ _ _ _ _ _ _ _ _ _ _ _ _ _ _ _ _ _ _ _ _ _ _ _ _ _ _ _ _ _ _ _ _ _ _ _ _ _ _ _ _ _ _ _ _ HR
    · obtain rfl : xcn = j := by omega
      have HR : Hid ((∃ l2, CnI wr base ks (some ⟨b, ob, none⟩) m c l2 ∧ OvSt (ks.map Kd.p) l0 l2 o e1 (i + 1) 0) ∧ Kx 0 [3] w0 wr ∧ Below base w0 wr) := Lib.hid ⟨⟨l1, hI1, hst1.next hx1 (by have := hx1Y.clen; have := hs1.2.2.2.2.1; omega)⟩, HB1.out.1.trans HKX.out.1, HB1.out.2.trans HKX.out.2⟩
      clear hI1 hst1 hx1 hs1 hx1Y HI HKX
      go_wp2_with fail
      first
        | exact HR
        | exact hN _ _ _ _ _ _ _ _ _ _ _ _ _ _ _ _ _ _ _ _ _ _ _ _ _ _ _ _ _ _ _ _ _ _ _ _ _ _ _ _ _ _ _ _ _ _ _ _ _ _ _ _ _ _ _ _ _ _ _ _ _ _ _ _ _ _ _ _ _ _ _ _ _ _ _ _ _ _ _ _ _ _ _ _ _ _ _ _ HR

/-! ### Si -/
noncomputable def ctOv : Code := (Try.f72.body.bind (blkB 5)).getD .skip

set_option maxHeartbeats 8000000 in
theorem ctOv_any {x1 x2 x3 x4 x5 x6 x7 x8 x9 x11 x12 x13 x14 x15 x16 x17 x18 x19 x20 x21 x22 x23 x24 x25 x26 x27 x28 x29 x30 x31 x32 x33 x34 x35 x36 x37 x38 x39 x40 x41 x42 x43 x44 x45 x46 x47 x48 x49 x50 x51 x52 x53 x54 x55 x56 x57 x58 x59 x60 x61 x62 x63 x64 x65 x66 x67 x68 x69 x70 x71 x72 x73 x74 x75 x76 x77 x78 x79 x80 x81 x82 x84 x86 x87 x88 x89 x90 x91 x92 x93 x94 x95 x96 x97 x98 x99 x100 x101 x102 x103 x104 x105 x106 x107 x108 x109 x110 x111 x112 x113 x114 x115 x116 x117 x118 x119 x120 x121 x122 x123 x124 x125 x126 x127 x128 x129 x130 x131 x132 x133 x134 x135 x136 x137 x138 x139 x140 x141 x142 x143 x144 x145 x146 x147 x148 x149 x150 x151 x152 x153 x154 x155 x156 x157 x158 x159 x160 x161 x162 x163 x164 x165 x166 x167 x168 x169 x170 x171 x172 x173 x174 x175 x176 x177 x178 : Value} {Q : Exit → Act → World → Prop} {w0 : World} {B base kn kc on oc m c k : Nat} {kA oA A : Option Addr} {ks : List Kd} {l : List Bt} {os : List Ov} {o : Ov}
    (hkd : KsOk w0 B kA kn kc ks) (hone : Hid (∀ k ∈ ks, oneF k.nm k.fds = 0)) (hI : CnI w0 base ks A m c l) (hu : UqB l) (hv : ∀ b ∈ l.map Bt.p, VCs holdK (ks.map Kd.p) b.2) (hos : OvsOk w0 B oA on oc os) (ho : os[k]? = some o) (hB : B ≤ base) (hbase : base ≤ w0.heap.size)
    (hN : ∀ (y8 y9 y18 y19 y21 y22 y23 y24 y87 y88 y89 y90 y91 y92 y93 y94 y95 y96 y97 y98 y99 y100 y101 y102 y103 y104 y105 y106 y107 y108 y109 y110 y111 y112 y113 y114 y115 y116 y117 y118 y119 y120 y121 y122 y123 y124 y125 y126 y127 y128 y129 y130 y131 y132 y133 y134 y135 y136 y137 y138 y139 y140 y141 y142 y143 y144 y145 y146 y147 y148 y149 y150 y151 y152 y153 y154 y155 y156 y157 y158 y159 y160 y161 y162 y163 y164 y165 y166 y167 y168 y169 y170 y171 y172 y173 y174 y175 y176 : Value) (w' : World), Hid (ovCode (ks.map Kd.p) (l.map Bt.p) o.path o.K o.F o.V = 0 ∧ (∃ l1, CnI w' base ks A m c l1 ∧ l1.map Bt.p = ovSet (l.map Bt.p) o.path o.K o.F o.V) ∧ Below base w0 w') → Q .normal ⟨#[.slice kA kn kc, x1, x2, x3, x4, x5, x6, x7, y8, y9, .slice A m c, x11, x12, x13, x14, x15, x16, x17, y18, y19, x20, y21, y22, y23, y24, x25, x26, x27, x28, x29, x30, x31, x32, x33, x34, x35, x36, x37, x38, x39, x40, x41, x42, x43, x44, x45, x46, x47, x48, x49, x50, x51, x52, x53, x54, x55, x56, x57, x58, x59, x60, x61, x62, x63, x64, x65, x66, x67, x68, x69, x70, x71, x72, x73, x74, x75, x76, x77, x78, x79, x80, x81, x82, .slice oA on oc, x84, .int .i64 (k : Int), x86, y87, y88, y89, y90, y91, y92, y93, y94, y95, y96, y97, y98, y99, y100, y101, y102, y103, y104, y105, y106, y107, y108, y109, y110, y111, y112, y113, y114, y115, y116, y117, y118, y119, y120, y121, y122, y123, y124, y125, y126, y127, y128, y129, y130, y131, y132, y133, y134, y135, y136, y137, y138, y139, y140, y141, y142, y143, y144, y145, y146, y147, y148, y149, y150, y151, y152, y153, y154, y155, y156, y157, y158, y159, y160, y161, y162, y163, y164, y165, y166, y167, y168, y169, y170, y171, y172, y173, y174, y175, y176, x177, x178], []⟩ w')
    (hErr : ∀ (y18 y19 y21 y22 y23 y24 y87 y88 y89 y90 y91 y92 y93 y94 y95 y96 y97 y98 y99 y100 y101 y102 y103 y104 y105 y106 y107 y108 y109 y110 y111 y112 y113 y114 y115 y116 y117 y118 y119 y120 y121 y122 y123 y124 y125 y126 y127 y128 y129 y130 y131 y132 y133 y134 y135 y136 y137 y138 y139 y140 y141 y142 y143 y144 y145 y146 y147 y148 y149 y150 y151 y152 y153 y154 y155 y156 y157 y158 y159 y160 y161 y162 y163 y164 y165 y166 y167 y168 y169 y170 y171 y172 y173 y174 y175 y176 : Value) (e1 : Int) (w' : World), Hid (e1 ≠ 0 ∧ ovCode (ks.map Kd.p) (l.map Bt.p) o.path o.K o.F o.V = e1 ∧ Below base w0 w') → Q .ret ⟨#[.slice kA kn kc, x1, x2, x3, x4, x5, x6, x7, .slice none 0 0, .int .i64 e1, .slice A m c, x11, x12, x13, x14, x15, x16, x17, y18, y19, x20, y21, y22, y23, y24, x25, x26, x27, x28, x29, x30, x31, x32, x33, x34, x35, x36, x37, x38, x39, x40, x41, x42, x43, x44, x45, x46, x47, x48, x49, x50, x51, x52, x53, x54, x55, x56, x57, x58, x59, x60, x61, x62, x63, x64, x65, x66, x67, x68, x69, x70, x71, x72, x73, x74, x75, x76, x77, x78, x79, x80, x81, x82, .slice oA on oc, x84, .int .i64 (k : Int), x86, y87, y88, y89, y90, y91, y92, y93, y94, y95, y96, y97, y98, y99, y100, y101, y102, y103, y104, y105, y106, y107, y108, y109, y110, y111, y112, y113, y114, y115, y116, y117, y118, y119, y120, y121, y122, y123, y124, y125, y126, y127, y128, y129, y130, y131, y132, y133, y134, y135, y136, y137, y138, y139, y140, y141, y142, y143, y144, y145, y146, y147, y148, y149, y150, y151, y152, y153, y154, y155, y156, y157, y158, y159, y160, y161, y162, y163, y164, y165, y166, y167, y168, y169, y170, y171, y172, y173, y174, y175, y176, x177, x178], []⟩ w') :
    Code.wp Try.prog ctOv Q ⟨#[.slice kA kn kc, x1, x2, x3, x4, x5, x6, x7, x8, x9, .slice A m c, x11, x12, x13, x14, x15, x16, x17, x18, x19, x20, x21, x22, x23, x24, x25, x26, x27, x28, x29, x30, x31, x32, x33, x34, x35, x36, x37, x38, x39, x40, x41, x42, x43, x44, x45, x46, x47, x48, x49, x50, x51, x52, x53, x54, x55, x56, x57, x58, x59, x60, x61, x62, x63, x64, x65, x66, x67, x68, x69, x70, x71, x72, x73, x74, x75, x76, x77, x78, x79, x80, x81, x82, .slice oA on oc, x84, .int .i64 (k : Int), x86, x87, x88, x89, x90, x91, x92, x93, x94, x95, x96, x97, x98, x99, x100, x101, x102, x103, x104, x105, x106, x107, x108, x109, x110, x111, x112, x113, x114, x115, x116, x117, x118, x119, x120, x121, x122, x123, x124, x125, x126, x127, x128, x129, x130, x131, x132, x133, x134, x135, x136, x137, x138, x139, x140, x141, x142, x143, x144, x145, x146, x147, x148, x149, x150, x151, x152, x153, x154, x155, x156, x157, x158, x159, x160, x161, x162, x163, x164, x165, x166, x167, x168, x169, x170, x171, x172, x173, x174, x175, x176, x177, x178], []⟩ w0 := by
  conv => arg 2; whnf
  have hkon : k < on := by have := (List.getElem?_eq_some_iff.1 ho).1; have := hos.len; omega
  obtain ⟨b, ob, hAe, hbb, q0, q1, q2, q3⟩ := hos.rd.ov hkon ho
  have hoY := hos.ok o (List.mem_of_getElem? ho)
  have hkz : (k : Int) < on := by omega
  have hkz0 : (0 : Int) ≤ k := by omega
  have hocap := hos.cap
  have hocap2 := hos.cap2
  obtain ⟨W1, hW1⟩ : ∃ W1, W1 = w0.alloc (.cells #[.slice o.pA o.pn o.pc, .int .i64 o.K, .int .i64 o.F, .int .i64 o.V] 158) := ⟨_, rfl⟩
  obtain ⟨hp, hhe⟩ : ∃ hp, hp = w0.heap.size := ⟨_, rfl⟩
  have hb1 : Below w0.heap.size w0 W1 := by rw [hW1]; exact (Below.refl _ _).alloc (Nat.le_refl _) _
  have HBO : Hid (Bk W1 hp 158 #[.slice o.pA o.pn o.pc, .int .i64 o.K, .int .i64 o.F, .int .i64 o.V]) := Lib.hid (by rw [hW1, hhe]; exact Bk.new _ _ _)
  have HKD : Hid (KsOk W1 B kA kn kc ks) := Lib.hid (hkd.below (hb1.mono (Nat.le_trans hB hbase)))
  have HOV : Hid (OvOk W1 B o) := Lib.hid (hoY.below (hb1.mono (Nat.le_trans hB hbase)))
  have hIW : CnI W1 base ks A m c l := hI.keepB hb1
  have hmcap := own_cap2 hIW.own
  have hmc := hmcap.1
  have hmc2 := hmcap.2
  have HI : Hid (∃ l1, CnI W1 base ks A m c l1 ∧ OvSt (ks.map Kd.p) l l1 o 4 0 0) := Lib.hid ⟨l, hIW, .start _ _ _⟩
  have HLM : Hid (m = l.length) := Lib.hid hI.len
  have HKX : Hid (Kx 0 [3] W1 W1 ∧ Below base W1 W1) := Lib.hid ⟨Kx.refl, Below.refl _ _⟩
  have HB1 : Hid (Below base w0 W1) := Lib.hid (hb1.mono hbase)
  have HBZ : Hid (base ≤ W1.heap.size) := Lib.hid (Nat.le_trans hbase hb1.size)
  have HU := Lib.hid hu
  have HV := Lib.hid hv
  have HW1 := Lib.hid (And.intro hW1 hhe)
  subst hAe
  clear hkd hos hoY ho hI hu hv hbb hb1 hhe hW1 hIW hmcap
  obtain ⟨R, hR⟩ : ∃ R, R = ovCode (ks.map Kd.p) (l.map Bt.p) o.path o.K o.F o.V := ⟨_, rfl⟩
  rw [← hR] at hN hErr
  have HR := Lib.hid hR
  clear hR
  obtain ⟨opA, hopA⟩ : ∃ z, z = o.pA := ⟨_, rfl⟩
  obtain ⟨opn, hopn⟩ : ∃ z, z = o.pn := ⟨_, rfl⟩
  obtain ⟨opc, hopc⟩ : ∃ z, z = o.pc := ⟨_, rfl⟩
  obtain ⟨oK, hoK⟩ : ∃ z, z = o.K := ⟨_, rfl⟩
  obtain ⟨oF, hoF⟩ : ∃ z, z = o.F := ⟨_, rfl⟩
  obtain ⟨oV, hoV⟩ : ∃ z, z = o.V := ⟨_, rfl⟩
  rw [← hopA, ← hopn, ← hopc] at q0
  rw [← hoK] at q1
  rw [← hoF] at q2
  rw [← hoV] at q3
  rw [← hopA, ← hopn, ← hopc, ← hoK, ← hoF, ← hoV] at HW1
  clear hopA hopn hopc hoK hoF hoV
  go_upto_region 21 with fail
  rw [← HW1.out.1, ← HW1.out.2]
  clear q0 q1 q2 q3
  go_wp2_with fail
  go_loopw [19, 91] (fun dv iv wx => ∃ (i : Nat) (e1 : Int), i ≤ m ∧ iv = .int .i64 i ∧ dv = .int .i64 e1 ∧ Hid (∃ l1, CnI wx base ks A m c l1 ∧ OvSt (ks.map Kd.p) l l1 o e1 i 0) ∧ Hid (Kx 0 [3] W1 wx ∧ Below base W1 wx)) (fun _ iv _ => m - (intOf iv).toNat)
  case atStart => exact ⟨0, 4, Nat.zero_le _, rfl, rfl, HI, HKX⟩
  case round =>
    clear HI HKX
    obtain ⟨i, e1, hi, rfl, rfl, HI, HKX⟩ := hrel
    obtain ⟨l1, hI1, hst1⟩ := HI.out
    by_cases hlt : i < m
    · have hiz : (i : Int) < m := by omega
      have hiz0 : (0 : Int) ≤ i := by omega
      have HKDr := Lib.hid (HKD.out.below (HKX.out.2.mono hB))
      have HOVr := Lib.hid (HOV.out.below (HKX.out.2.mono hB))
      have HBOr : Hid (Bk wr hp 158 #[.slice o.pA o.pn o.pc, .int .i64 o.K, .int .i64 o.F, .int .i64 o.V]) := Lib.hid (HKX.out.1.bk HBO.out (by decide))
      have HSZ : Hid (base ≤ wr.heap.size) := Lib.hid (by have := HBZ.out; have := HKX.out.2.size; omega)
      have HP := Lib.hid (And.intro hI1 hst1)
      clear hI1 hst1 HI
      go_upto_if 92 with fail
      first
        | (go_step; refine ctEnt_any HKDr.out hone HP.out.1 HU.out HV.out HP.out.2 hlt HBOr.out HOVr.out hB HSZ.out ?_ ?_)
        | (go_step; go_step; refine ctEnt_any HKDr.out hone HP.out.1 HU.out HV.out HP.out.2 hlt HBOr.out HOVr.out hB HSZ.out ?_ ?_)
        | (go_step; go_step; go_step; refine ctEnt_any HKDr.out hone HP.out.1 HU.out HV.out HP.out.2 hlt HBOr.out HOVr.out hB HSZ.out ?_ ?_)
        | (go_step; go_step; go_step; go_step; refine ctEnt_any HKDr.out hone HP.out.1 HU.out HV.out HP.out.2 hlt HBOr.out HOVr.out hB HSZ.out ?_ ?_)
        | (go_step; go_step; go_step; go_step; go_step; refine ctEnt_any HKDr.out hone HP.out.1 HU.out HV.out HP.out.2 hlt HBOr.out HOVr.out hB HSZ.out ?_ ?_)
      · intros
        rename_i e2 w2 H2
        obtain ⟨hst2, hk2, hb2⟩ := H2.out
        have HR2 := Lib.hid hst2
        have HK2 : Hid (Kx 0 [3] W1 w2 ∧ Below base W1 w2) := Lib.hid ⟨HKX.out.1.trans hk2, HKX.out.2.trans hb2⟩
        clear HP H2 HKX HKDr HOVr HBOr HSZ hst2 hk2 hb2
        go_wp2_with fail
        go_roundw
        case measure => simp [intOf]; omega
        case rel => exact ⟨i + 1, e2, by omega, by go_num, rfl, HR2, HK2⟩
      · intros
        rename_i e2 w2 H2
        have HR2 : Hid ((1 : Int) ≠ 0 ∧ R = 1 ∧ Below base w0 w2) := Lib.hid ⟨by decide, by rw [HR.out]; exact H2.out.1, HB1.out.trans (HKX.out.2.trans H2.out.2)⟩
        clear HP H2 HKX HKDr HOVr HBOr HSZ
        go_wp2_with fail
        first
          | exact HR2
          | exact hErr _ _ _ _ _ _ _ _ _ _ _ _ _ _ _ _ _ _ _ _ _ _ _ _ _ _ _ _ _ _ _ _ _ _ _ _ _ _ _ _ _ _ _ _ _ _ _ _ _ _ _ _ _ _ _ _ _ _ _ _ _ _ _ _ _ _ _ _ _ _ _ _ _ _ _ _ _ _ _ _ _ _ _ _ _ _ _ _ _ _ _ _ _ _ _ _ _ _ HR2
    · obtain rfl : m = i := by omega
      have hcd : R = e1 := by rw [HR.out]; exact hst1.code HU.out (by have := HLM.out; omega)
      rcases hst1.cases with he | he
      · subst he
        have HR2 : Hid ((4 : Int) ≠ 0 ∧ R = 4 ∧ Below base w0 wr) := Lib.hid ⟨by decide, hcd, HB1.out.trans HKX.out.2⟩
        clear hI1 hst1 HI HKX hcd HR
        go_wp2_with fail
        first
          | exact HR2
          | exact hErr _ _ _ _ _ _ _ _ _ _ _ _ _ _ _ _ _ _ _ _ _ _ _ _ _ _ _ _ _ _ _ _ _ _ _ _ _ _ _ _ _ _ _ _ _ _ _ _ _ _ _ _ _ _ _ _ _ _ _ _ _ _ _ _ _ _ _ _ _ _ _ _ _ _ _ _ _ _ _ _ _ _ _ _ _ _ _ _ _ _ _ _ _ _ _ _ _ _ HR2
      · subst he
        have HR2 : Hid (R = 0 ∧ (∃ l2, CnI wr base ks A m c l2 ∧ l2.map Bt.p = ovSet (l.map Bt.p) o.path o.K o.F o.V) ∧ Below base w0 wr) := Lib.hid ⟨hcd, ⟨l1, hI1, hst1.set HU.out⟩, HB1.out.trans HKX.out.2⟩
        clear hI1 hst1 HI HKX hcd HR
        go_wp2_with fail
        first
          | exact HR2
          | exact hN _ _ _ _ _ _ _ _ _ _ _ _ _ _ _ _ _ _ _ _ _ _ _ _ _ _ _ _ _ _ _ _ _ _ _ _ _ _ _ _ _ _ _ _ _ _ _ _ _ _ _ _ _ _ _ _ _ _ _ _ _ _ _ _ _ _ _ _ _ _ _ _ _ _ _ _ _ _ _ _ _ _ _ _ _ _ _ _ _ _ _ _ _ _ _ _ _ _ _ HR2

/-! ### Sj -/
noncomputable def ctOvs : Code := (Try.f72.body.bind (findB 18)).getD .skip

set_option maxHeartbeats 8000000 in
theorem ctOvs_any {x1 x2 x4 x5 x6 x7 x8 x9 x11 x12 x13 x14 x15 x16 x17 x18 x19 x20 x21 x22 x23 x24 x25 x26 x27 x28 x29 x30 x31 x32 x33 x34 x35 x36 x37 x38 x39 x40 x41 x42 x43 x44 x45 x46 x47 x48 x49 x50 x51 x52 x53 x54 x55 x56 x57 x58 x59 x60 x61 x62 x63 x64 x65 x66 x67 x68 x69 x70 x71 x72 x73 x74 x75 x76 x77 x78 x79 x80 x81 x82 x83 x84 x85 x86 x87 x88 x89 x90 x91 x92 x93 x94 x95 x96 x97 x98 x99 x100 x101 x102 x103 x104 x105 x106 x107 x108 x109 x110 x111 x112 x113 x114 x115 x116 x117 x118 x119 x120 x121 x122 x123 x124 x125 x126 x127 x128 x129 x130 x131 x132 x133 x134 x135 x136 x137 x138 x139 x140 x141 x142 x143 x144 x145 x146 x147 x148 x149 x150 x151 x152 x153 x154 x155 x156 x157 x158 x159 x160 x161 x162 x163 x164 x165 x166 x167 x168 x169 x170 x171 x172 x173 x174 x175 x176 x177 x178 : Value} {Q : Exit → Act → World → Prop} {w0 : World} {B base kn kc on oc m c : Nat} {kA oA A : Option Addr} {ks : List Kd} {l : List Bt} {os : List Ov}
    (hkd : KsOk w0 B kA kn kc ks) (hone : Hid (∀ k ∈ ks, oneF k.nm k.fds = 0)) (hI : CnI w0 base ks A m c l) (hlex : LexP (l.map Bt.p)) (hv : ∀ b ∈ l.map Bt.p, VCs holdK (ks.map Kd.p) b.2) (hos : OvsOk w0 B oA on oc os) (hB : B ≤ base) (hbase : base ≤ w0.heap.size)
    (hN : ∀ (y8 y9 y18 y19 y21 y22 y23 y24 y83 y84 y85 y86 y87 y88 y89 y90 y91 y92 y93 y94 y95 y96 y97 y98 y99 y100 y101 y102 y103 y104 y105 y106 y107 y108 y109 y110 y111 y112 y113 y114 y115 y116 y117 y118 y119 y120 y121 y122 y123 y124 y125 y126 y127 y128 y129 y130 y131 y132 y133 y134 y135 y136 y137 y138 y139 y140 y141 y142 y143 y144 y145 y146 y147 y148 y149 y150 y151 y152 y153 y154 y155 y156 y157 y158 y159 y160 y161 y162 y163 y164 y165 y166 y167 y168 y169 y170 y171 y172 y173 y174 y175 y176 y177 : Value) (w' : World), Hid ((oversF (ks.map Kd.p) (os.map Ov.p) (l.map Bt.p)).1 = 0 ∧ (∃ l1, CnI w' base ks A m c l1 ∧ l1.map Bt.p = (oversF (ks.map Kd.p) (os.map Ov.p) (l.map Bt.p)).2) ∧ Below base w0 w') → Q .normal ⟨#[.slice kA kn kc, x1, x2, .slice oA on oc, x4, x5, x6, x7, y8, y9, .slice A m c, x11, x12, x13, x14, x15, x16, x17, y18, y19, x20, y21, y22, y23, y24, x25, x26, x27, x28, x29, x30, x31, x32, x33, x34, x35, x36, x37, x38, x39, x40, x41, x42, x43, x44, x45, x46, x47, x48, x49, x50, x51, x52, x53, x54, x55, x56, x57, x58, x59, x60, x61, x62, x63, x64, x65, x66, x67, x68, x69, x70, x71, x72, x73, x74, x75, x76, x77, x78, x79, x80, x81, x82, y83, y84, y85, y86, y87, y88, y89, y90, y91, y92, y93, y94, y95, y96, y97, y98, y99, y100, y101, y102, y103, y104, y105, y106, y107, y108, y109, y110, y111, y112, y113, y114, y115, y116, y117, y118, y119, y120, y121, y122, y123, y124, y125, y126, y127, y128, y129, y130, y131, y132, y133, y134, y135, y136, y137, y138, y139, y140, y141, y142, y143, y144, y145, y146, y147, y148, y149, y150, y151, y152, y153, y154, y155, y156, y157, y158, y159, y160, y161, y162, y163, y164, y165, y166, y167, y168, y169, y170, y171, y172, y173, y174, y175, y176, y177, x178], []⟩ w')
    (hErr : ∀ (y18 y19 y21 y22 y23 y24 y83 y84 y85 y86 y87 y88 y89 y90 y91 y92 y93 y94 y95 y96 y97 y98 y99 y100 y101 y102 y103 y104 y105 y106 y107 y108 y109 y110 y111 y112 y113 y114 y115 y116 y117 y118 y119 y120 y121 y122 y123 y124 y125 y126 y127 y128 y129 y130 y131 y132 y133 y134 y135 y136 y137 y138 y139 y140 y141 y142 y143 y144 y145 y146 y147 y148 y149 y150 y151 y152 y153 y154 y155 y156 y157 y158 y159 y160 y161 y162 y163 y164 y165 y166 y167 y168 y169 y170 y171 y172 y173 y174 y175 y176 y177 : Value) (e1 : Int) (w' : World), Hid (e1 ≠ 0 ∧ (oversF (ks.map Kd.p) (os.map Ov.p) (l.map Bt.p)).1 = e1 ∧ Below base w0 w') → Q .ret ⟨#[.slice kA kn kc, x1, x2, .slice oA on oc, x4, x5, x6, x7, .slice none 0 0, .int .i64 e1, .slice A m c, x11, x12, x13, x14, x15, x16, x17, y18, y19, x20, y21, y22, y23, y24, x25, x26, x27, x28, x29, x30, x31, x32, x33, x34, x35, x36, x37, x38, x39, x40, x41, x42, x43, x44, x45, x46, x47, x48, x49, x50, x51, x52, x53, x54, x55, x56, x57, x58, x59, x60, x61, x62, x63, x64, x65, x66, x67, x68, x69, x70, x71, x72, x73, x74, x75, x76, x77, x78, x79, x80, x81, x82, y83, y84, y85, y86, y87, y88, y89, y90, y91, y92, y93, y94, y95, y96, y97, y98, y99, y100, y101, y102, y103, y104, y105, y106, y107, y108, y109, y110, y111, y112, y113, y114, y115, y116, y117, y118, y119, y120, y121, y122, y123, y124, y125, y126, y127, y128, y129, y130, y131, y132, y133, y134, y135, y136, y137, y138, y139, y140, y141, y142, y143, y144, y145, y146, y147, y148, y149, y150, y151, y152, y153, y154, y155, y156, y157, y158, y159, y160, y161, y162, y163, y164, y165, y166, y167, y168, y169, y170, y171, y172, y173, y174, y175, y176, y177, x178], []⟩ w') :
    Code.wp Try.prog ctOvs Q ⟨#[.slice kA kn kc, x1, x2, .slice oA on oc, x4, x5, x6, x7, x8, x9, .slice A m c, x11, x12, x13, x14, x15, x16, x17, x18, x19, x20, x21, x22, x23, x24, x25, x26, x27, x28, x29, x30, x31, x32, x33, x34, x35, x36, x37, x38, x39, x40, x41, x42, x43, x44, x45, x46, x47, x48, x49, x50, x51, x52, x53, x54, x55, x56, x57, x58, x59, x60, x61, x62, x63, x64, x65, x66, x67, x68, x69, x70, x71, x72, x73, x74, x75, x76, x77, x78, x79, x80, x81, x82, x83, x84, x85, x86, x87, x88, x89, x90, x91, x92, x93, x94, x95, x96, x97, x98, x99, x100, x101, x102, x103, x104, x105, x106, x107, x108, x109, x110, x111, x112, x113, x114, x115, x116, x117, x118, x119, x120, x121, x122, x123, x124, x125, x126, x127, x128, x129, x130, x131, x132, x133, x134, x135, x136, x137, x138, x139, x140, x141, x142, x143, x144, x145, x146, x147, x148, x149, x150, x151, x152, x153, x154, x155, x156, x157, x158, x159, x160, x161, x162, x163, x164, x165, x166, x167, x168, x169, x170, x171, x172, x173, x174, x175, x176, x177, x178], []⟩ w0 := by
  conv => arg 2; whnf
  obtain ⟨R, hR⟩ : ∃ R, R = oversF (ks.map Kd.p) (os.map Ov.p) (l.map Bt.p) := ⟨_, rfl⟩
  rw [← hR] at hN hErr
  have hocap := hos.cap
  have hocap2 := hos.cap2
  have HI : Hid (∃ l1, CnI w0 base ks A m c l1 ∧ R = oversF (ks.map Kd.p) ((os.drop 0).map Ov.p) (l1.map Bt.p) ∧ LexP (l1.map Bt.p) ∧ ∀ b ∈ l1.map Bt.p, VCs holdK (ks.map Kd.p) b.2) := Lib.hid ⟨l, hI, by rw [List.drop_zero]; exact hR, hlex, hv⟩
  have HB : Hid (Below base w0 w0) := Lib.hid (Below.refl _ _)
  have HKD := Lib.hid hkd
  have HOS := Lib.hid hos
  clear hkd hI hlex hv hos hR
  go_wp2_with fail
  go_loopw [85] (fun kv wx => ∃ k : Nat, k ≤ on ∧ kv = .int .i64 k ∧ Hid (∃ l1, CnI wx base ks A m c l1 ∧ R = oversF (ks.map Kd.p) ((os.drop k).map Ov.p) (l1.map Bt.p) ∧ LexP (l1.map Bt.p) ∧ ∀ b ∈ l1.map Bt.p, VCs holdK (ks.map Kd.p) b.2) ∧ Hid (Below base w0 wx)) (fun kv _ => on - (intOf kv).toNat)
  case atStart => exact ⟨0, Nat.zero_le _, rfl, HI, HB⟩
  case round =>
    clear HI HB
    obtain ⟨k, hk, rfl, HI, HB⟩ := hrel
    obtain ⟨l1, hI1, hR1, hlex1, hv1⟩ := HI.out
    by_cases hlt : k < on
    · obtain ⟨o, ho⟩ : ∃ o, os[k]? = some o := ⟨_, List.getElem?_eq_getElem (by have := HOS.out.len; omega)⟩
      have hkz : (k : Int) < on := by omega
      have hkz0 : (0 : Int) ≤ k := by omega
      have hRs : R = if ovCode (ks.map Kd.p) (l1.map Bt.p) o.path o.K o.F o.V ≠ 0 then (ovCode (ks.map Kd.p) (l1.map Bt.p) o.path o.K o.F o.V, []) else oversF (ks.map Kd.p) ((os.drop (k + 1)).map Ov.p) (ovSet (l1.map Bt.p) o.path o.K o.F o.V) := by
        rw [hR1, List.drop_eq_getElem_cons (by have := HOS.out.len; omega), (List.getElem?_eq_some_iff.1 ho).2, List.map_cons, oversF]; rfl
      have HKDr := Lib.hid (HKD.out.below (HB.out.mono hB))
      have HOSr := Lib.hid (HOS.out.below (HB.out.mono hB))
      have HSZ : Hid (base ≤ wr.heap.size) := Lib.hid (Nat.le_trans hbase HB.out.size)
      have HP := Lib.hid (And.intro hI1 (And.intro (UqB.of hlex1 hv1) (And.intro hv1 ho)))
      have HRS := Lib.hid (And.intro hRs hlex1)
      clear hI1 hR1 hlex1 hv1 ho hRs HI
      go_upto_if 86 with fail
      first
        | (go_step; refine ctOv_any HKDr.out hone HP.out.1 HP.out.2.1 HP.out.2.2.1 HOSr.out HP.out.2.2.2 hB HSZ.out ?_ ?_)
        | (go_step; go_step; refine ctOv_any HKDr.out hone HP.out.1 HP.out.2.1 HP.out.2.2.1 HOSr.out HP.out.2.2.2 hB HSZ.out ?_ ?_)
        | (go_step; go_step; go_step; refine ctOv_any HKDr.out hone HP.out.1 HP.out.2.1 HP.out.2.2.1 HOSr.out HP.out.2.2.2 hB HSZ.out ?_ ?_)
        | (go_step; go_step; go_step; go_step; refine ctOv_any HKDr.out hone HP.out.1 HP.out.2.1 HP.out.2.2.1 HOSr.out HP.out.2.2.2 hB HSZ.out ?_ ?_)
        | (go_step; go_step; go_step; go_step; go_step; refine ctOv_any HKDr.out hone HP.out.1 HP.out.2.1 HP.out.2.2.1 HOSr.out HP.out.2.2.2 hB HSZ.out ?_ ?_)
      · intros
        rename_i w2 H2
        have HR2 : Hid (∃ l2, CnI w2 base ks A m c l2 ∧ R = oversF (ks.map Kd.p) ((os.drop (k + 1)).map Ov.p) (l2.map Bt.p) ∧ LexP (l2.map Bt.p) ∧ ∀ b ∈ l2.map Bt.p, VCs holdK (ks.map Kd.p) b.2) := Lib.hid (by
          obtain ⟨hc2, ⟨l2, hI2, hp2⟩, _⟩ := H2.out
          refine ⟨l2, hI2, ?_, ?_, ?_⟩
          · rw [HRS.out.1, if_neg (by rw [hc2]; simp), hp2]
          · rw [hp2]; exact HRS.out.2.shp (ovSet_shp _ _ _ _ _)
          · rw [hp2]; exact ovSet_valid hc2 HP.out.2.2.1)
        have HB2 : Hid (Below base w0 w2) := Lib.hid (HB.out.trans H2.out.2.2)
        clear HP H2 HB HKDr HOSr HSZ HRS
        go_wp2_with fail
        go_roundw
        case measure => simp [intOf]; omega
        case rel => exact ⟨k + 1, by omega, by go_num, HR2, HB2⟩
      · intros
        rename_i e2 w2 H2
        have HR2 : Hid (e2 ≠ 0 ∧ R.1 = e2 ∧ Below base w0 w2) := Lib.hid ⟨H2.out.1, by rw [HRS.out.1, if_pos (by rw [H2.out.2.1]; exact H2.out.1)]; exact H2.out.2.1, HB.out.trans H2.out.2.2⟩
        clear HP H2 HB HKDr HOSr HSZ HRS
        go_wp2_with fail
        first
          | exact HR2
          | exact hErr _ _ _ _ _ _ _ _ _ _ _ _ _ _ _ _ _ _ _ _ _ _ _ _ _ _ _ _ _ _ _ _ _ _ _ _ _ _ _ _ _ _ _ _ _ _ _ _ _ _ _ _ _ _ _ _ _ _ _ _ _ _ _ _ _ _ _ _ _ _ _ _ _ _ _ _ _ _ _ _ _ _ _ _ _ _ _ _ _ _ _ _ _ _ _ _ _ _ _ _ _ _ _ HR2
    · obtain rfl : on = k := by omega
      have HR2 : Hid (R.1 = 0 ∧ (∃ l2, CnI wr base ks A m c l2 ∧ l2.map Bt.p = R.2) ∧ Below base w0 wr) := Lib.hid (by
        rw [List.drop_of_length_le (by have := HOS.out.len; omega)] at hR1
        rw [hR1]
        exact ⟨rfl, ⟨l1, hI1, rfl⟩, HB.out⟩)
      clear hI1 hR1 hlex1 hv1 HI HB
      go_wp2_with fail
      first
        | exact HR2
        | exact hN _ _ _ _ _ _ _ _ _ _ _ _ _ _ _ _ _ _ _ _ _ _ _ _ _ _ _ _ _ _ _ _ _ _ _ _ _ _ _ _ _ _ _ _ _ _ _ _ _ _ _ _ _ _ _ _ _ _ _ _ _ _ _ _ _ _ _ _ _ _ _ _ _ _ _ _ _ _ _ _ _ _ _ _ _ _ _ _ _ _ _ _ _ _ _ _ _ _ _ _ _ _ _ _ HR2

theorem CnI.one {w : World} {base : Nat} {ks : List Kd} {g oc n : Nat} {OA : Option Addr} {l1 l : List Cm} (hg : Bk w g 40 #[.slice none 0 0, .slice OA n oc]) (hb : base ≤ g) (ho : CpI w base OA n oc l1 l) (hl : n = l.length) (hkk : ∀ cm ∈ l, (∃ k : Nat, cm.k = k ∧ k < ks.length) ∧ cm.n ≤ 1048576) :
    CnI w base ks (some ⟨g, 0, none⟩) 1 1 [⟨none, 0, 0, [], OA, n, oc, l1⟩] := by
  have hcp := own_cap2 ho.own
  have hn1 : n = l1.length := by
    have h := congrArg List.length ho.n
    rw [List.length_map, List.length_map] at h
    omega
  refine ⟨⟨rfl, .inr ⟨g, 1, #[.slice none 0 0, .slice OA n oc], rfl, hb, hg, Nat.le_refl _, by unfold maxLen; omega, rfl, rfl⟩⟩, rfl, fun x hx => ?_, ?_, fun x hx cm hcm => ?_⟩
  · rw [List.mem_singleton.1 hx]
    exact ⟨World.ownsRow_nil _ _ _ _, rfl, RdY.of_own ho.own, hn1, hcp.1, hcp.2, ho.ok⟩
  · have h := ho.nd
    simpa [bsB, btB, rowB] using h
  · rw [List.mem_singleton.1 hx] at hcm
    obtain ⟨j, hj, e⟩ := List.getElem_of_mem hcm
    have h1 := congrArg (fun q => q[j]?) ho.p
    have h2 := congrArg (fun q => q[j]?) ho.n
    simp only [List.getElem?_map] at h1 h2
    have h0 : l1[j]? = some cm := by rw [← e]; exact List.getElem?_eq_getElem hj
    rw [h0] at h1 h2
    cases h3 : l[j]? with
    | none => rw [h3] at h1; simp at h1
    | some c0 =>
      rw [h3] at h1 h2
      have h4 := hkk c0 (List.mem_of_getElem? h3)
      have e1 : cm.k = c0.k := by simp at h1; exact congrArg Prod.fst h1
      have e2 : cm.n = c0.n := by simp at h2; exact h2
      rw [e1, e2]; exact h4

set_option maxHeartbeats 4000000 in
theorem construct_any {w0 : World} {B kn kc tn tc : Nat} {kA TA : Option Addr} {ks : List Kd} {ts : List Pf} (hk : KsOk w0 B kA kn kc ks) (ht : PfsOk w0 B TA tn tc ts) (htp : TplOk ks ts) (hone : Hid (∀ k ∈ ks, oneF k.nm k.fds = 0)) (hcv : ∀ t ∈ ts.map Pf.p, VCs holdK (ks.map Kd.p) t.1) :
    ∀ (d : Nat), d ≤ 100 → ∀ (nn : Nat), nn < d → nn < tn → ∀ (w : World) (oA : Option Addr) (on oc : Nat) (ovs : List Ov), Below B w0 w → OvsOk w B oA on oc ovs →
    Calls Try.prog 72 #[.slice kA kn kc, .slice TA tn tc, .int .i64 nn, .slice oA on oc] w (ConP w ks (buildF (ks.map Kd.p) (ts.map Pf.p) d nn (ovs.map Ov.p))) := by
  intro d
  induction d with
  | zero => intro _ nn h; omega
  | succ d ih =>
    intro hd nn hnd hnt w oA on oc ovs hb ho
    obtain ⟨t, hn⟩ : ∃ t, ts[nn]? = some t := ⟨_, List.getElem?_eq_getElem (by have := ht.len; omega)⟩
    have htw := ht.below hb
    have hkw := hk.below hb
    have hcs := htp.cs nn t hn
    have hrec : Hid (∀ (wz : World) (x : Pt), x ∈ t.pts → Below w.heap.size w wz → Calls Try.prog 72 #[.slice kA kn kc, .slice TA tn tc, .int .i64 x.of_, .slice x.oA x.on x.oc] wz (ConP wz ks (buildF (ks.map Kd.p) (ts.map Pf.p) d x.of_ (x.ovs.map Ov.p)))) := Lib.hid fun wz x hx hbz => by
      obtain ⟨k, e, hkn⟩ := htp.ps nn t hn x hx
      rw [e]
      have h1 := hb.trans (hbz.mono htw.lo)
      exact ih (by omega) k (by omega) (by omega) wz x.oA x.on x.oc x.ovs h1 (((ht.ok t (List.mem_of_getElem? hn)).ts.ok x hx).ov.below h1)
    obtain ⟨R, hR⟩ : ∃ R, R = buildF (ks.map Kd.p) (ts.map Pf.p) (d + 1) nn (ovs.map Ov.p) := ⟨_, rfl⟩
    rw [← hR]
    have hon := ho.len
    have hpt : (ts.map Pf.p)[((nn : Nat) : Int).toNat]? = some (Pf.p t) := by rw [List.getElem?_map, Int.toNat_natCast, hn]; rfl
    unfold buildF at hR
    rw [List.length_map, ← hon, hpt] at hR
    have HR := Lib.hid hR
    have HTW := Lib.hid htw
    have HKW := Lib.hid hkw
    have HCS := Lib.hid hcs
    have HN := Lib.hid hn
    have HO := Lib.hid ho
    have HCV := Lib.hid hcv
    have hcn := hcs.1
    have hcap := ho.cap
    have hcap2 := ho.cap2
    have hlo := htw.lo
    obtain ⟨tb, tof, rfl, htb, t0, t1⟩ := htw.rd.pf hnt hn
    have hto := htw.ok t (List.mem_of_getElem? hn)
    have HCC := Lib.hid (ccopyR_any hto.cs hcn fun cm hcm => (hcs.2 cm hcm).2)
    have HTC : Hid (t.cn = t.cms.length) := Lib.hid hto.cs.len
    have hnz : (nn : Int) < tn := by omega
    have hnz0 : (0 : Int) ≤ nn := by omega
    clear ih hn htw hkw hcs hR hpt ho hk ht htp hb hon hcv hto
    obtain ⟨cA, hcA⟩ : ∃ z, z = t.cA := ⟨_, rfl⟩
    obtain ⟨cn, hcn9⟩ : ∃ z, z = t.cn := ⟨_, rfl⟩
    obtain ⟨cc, hcc9⟩ : ∃ z, z = t.cc := ⟨_, rfl⟩
    rw [← hcA, ← hcn9, ← hcc9] at t0 HCC
    rw [← hcn9] at HTC
    clear hcA hcn9 hcc9
    go_enter Try.func72, Try.ntmps72
    by_cases h40 : on ≤ 40
    · have h40z : ¬ ((40 : Int) < on) := by omega
      have hne : ¬ (40 < on) := by omega
      go_upto_region 3 with fail
      go_cut [10] from 28 to 35 (fun s10 wx => ∃ g : Nat, s10 = .slice (some ⟨g, 0, none⟩) 1 1 ∧ Hid (Below w.heap.size w wx ∧ ∃ (oc2 : Nat) (OA : Option Addr) (l1 : List Cm), CnI wx w.heap.size ks (some ⟨g, 0, none⟩) 1 1 [⟨none, 0, 0, [], OA, cn, oc2, l1⟩] ∧ l1.map Cm.p = t.cms.map Cm.p))
      case first =>
        go_wp2_with fail
        (with_reducible refine HCC.out.mono ?_)
        clear HCC
        rintro e w2 ⟨OA, oc2, l1, rfl, HC, hb2⟩
        have HB2 := Lib.hid hb2
        have hs2 := hb2.size
        clear hb2 t0 t1
        go_wp2_with fail
        go_meet
        case rel =>
          refine ⟨_, rfl, Lib.hid ⟨HB2.out.alloc hs2 _, oc2, OA, l1, ?_, HC.out.p⟩⟩
          have hk9 : Kx 0 [] w2 (w2.alloc (.cells #[.slice none 0 0, .slice OA cn oc2] 40)) := (Kx.refl (B := 0)).alloc _
          exact CnI.one (Bk.new _ _ _) hs2 ⟨HC.out.own.alloc _, HC.out.p, HC.out.n, fun d hd => (HC.out.ok d hd).keep hk9 (by simp), HC.out.nd⟩ HTC.out HCS.out.2
      case rest =>
        obtain ⟨g, rfl, HD⟩ := hcut
        obtain ⟨w3, rfl⟩ : ∃ q, q = wc := ⟨_, rfl⟩
        obtain ⟨hb3, oc2, OA, l1, hI3, hp3⟩ := HD.out
        have hp0 : (List.map Bt.p [(⟨none, 0, 0, [], OA, cn, oc2, l1⟩ : Bt)]) = [([], (Pf.p t).1)] := by
          show [(([] : List Int), l1.map Cm.p)] = _; rw [hp3]; rfl
        obtain ⟨Z, hZ⟩ : ∃ Z, Z = partsF (buildF (ks.map Kd.p) (ts.map Pf.p) d) 0 (t.pts.map Pt.p) [([], (Pf.p t).1)] := ⟨_, rfl⟩
        have HZ := Lib.hid hZ
        have HRZ : Hid (R = if Z.1 ≠ 0 then (Z.1, []) else oversF (ks.map Kd.p) (ovs.map Ov.p) Z.2) := Lib.hid (by
          rw [HR.out, if_neg hne]; show (match partsF (buildF (ks.map Kd.p) (ts.map Pf.p) d) 0 (Pf.p t).2 [([], (Pf.p t).1)] with | (e, out) => _) = _
          rw [show (Pf.p t).2 = t.pts.map Pt.p from rfl, ← hZ])
        have HZL : Hid (LexP Z.2) := Lib.hid (by
          rw [hZ]
          exact partsF_lex (fun n os => buildF_lex _ _ d n os) _ 0 _ (by simp [LexP]) (fun b hb => .inl (by rw [List.mem_singleton.1 hb])))
        have HZV : Hid (∀ b ∈ Z.2, VCs holdK (ks.map Kd.p) b.2) := Lib.hid (by
          rw [hZ]
          refine partsF_valid (fun n os => buildF_valid (fun t ht => HCV.out t ht) d n os) _ 0 _ (fun b hb => ?_)
          rw [List.mem_singleton.1 hb]
          exact HCV.out t.p (List.mem_map_of_mem (List.mem_of_getElem? HN.out)))
        have HP0 := Lib.hid hp0
        have HI3 := Lib.hid hI3
        have HB3 := Lib.hid hb3
        clear hZ hp0 t0 t1 hI3 hp3 hb3 HD HCC
        first
          | (go_step; refine ctParts_any HTW.out HN.out HB3.out HI3 (by decide) hrec (by omega) ?_ ?_)
          | (go_step; go_step; refine ctParts_any HTW.out HN.out HB3.out HI3 (by decide) hrec (by omega) ?_ ?_)
          | (go_step; go_step; go_step; refine ctParts_any HTW.out HN.out HB3.out HI3 (by decide) hrec (by omega) ?_ ?_)
        · rw [HP0.out, ← HZ.out]
          intros
          rename_i e9 wz HP
          have hp1 := HP.out.2.2
          have hR1 : R.1 = e9 := by rw [HRZ.out, if_pos HP.out.2.1]; exact hp1
          have he0 : e9 ≠ 0 := by rw [← hp1]; exact HP.out.2.1
          have HP1 := Lib.hid (And.intro HP.out.1 (And.intro hR1 he0))
          clear hp1 hR1 he0 HP
          go_wp2_with fail
          go_ret2
          exact ⟨HP1.out.1, .inl ⟨by rw [HP1.out.2.1]; exact HP1.out.2.2, by rw [HP1.out.2.1]; rfl⟩⟩
        · rw [HP0.out, ← HZ.out]
          intros
          rename_i A' m' c' wz HP
          obtain ⟨w4, rfl⟩ : ∃ q, q = wz := ⟨_, rfl⟩
          obtain ⟨hb4, hz4, hm4, l4, hi4, hp4⟩ := HP.out
          have HI4 := Lib.hid hi4
          have HL4 : Hid (LexP (l4.map Bt.p) ∧ ∀ b ∈ l4.map Bt.p, VCs holdK (ks.map Kd.p) b.2) := Lib.hid ⟨by rw [hp4]; exact HZL.out, by rw [hp4]; exact HZV.out⟩
          have hRo : R = oversF (ks.map Kd.p) (ovs.map Ov.p) (l4.map Bt.p) := by rw [HRZ.out, if_neg (by rw [hz4]; simp), hp4]
          have HRO := Lib.hid hRo
          have HB4 := Lib.hid hb4
          have HS4 : Hid (B ≤ w.heap.size ∧ w.heap.size ≤ w4.heap.size) := Lib.hid ⟨hlo, hb4.size⟩
          have HK4 := Lib.hid (HKW.out.below (hb4.mono hlo))
          have HO4 := Lib.hid (HO.out.below (hb4.mono hlo))
          clear hb4 hz4 hi4 hp4 HP hRo
          first
            | (go_step; refine ctOvs_any HK4.out hone HI4.out HL4.out.1 HL4.out.2 HO4.out HS4.out.1 HS4.out.2 ?_ ?_)
            | (go_step; go_step; refine ctOvs_any HK4.out hone HI4.out HL4.out.1 HL4.out.2 HO4.out HS4.out.1 HS4.out.2 ?_ ?_)
            | (go_step; go_step; go_step; refine ctOvs_any HK4.out hone HI4.out HL4.out.1 HL4.out.2 HO4.out HS4.out.1 HS4.out.2 ?_ ?_)
          · rw [← HRO.out]
            intros
            rename_i wz HP
            have HBZ : Hid (Below w.heap.size w wz) := Lib.hid (HB4.out.trans HP.out.2.2)
            go_wp2_with fail
            go_ret2
            obtain ⟨h1, ⟨l', h3, h4⟩, h2⟩ := HP.out
            exact ⟨HBZ.out, .inr ⟨h1, A', m', c', l', rfl, Lib.hid ⟨h3, h4⟩⟩⟩
          · rw [← HRO.out]
            intros
            rename_i e9 wz HP
            have HBZ : Hid (Below w.heap.size w wz) := Lib.hid (HB4.out.trans HP.out.2.2)
            go_wp2_with fail
            go_ret2
            exact ⟨HBZ.out, .inl ⟨by rw [HP.out.2.1]; exact HP.out.1, by rw [HP.out.2.1]; rfl⟩⟩
    · have h40z : (40 : Int) < on := by omega
      have hne : 40 < on := by omega
      have HRZ : Hid (R.1 = 2) := Lib.hid (by rw [HR.out, if_pos hne])
      clear HCC t0 t1
      go_wp2_with fail
      go_ret2
      exact ⟨Below.refl _ _, .inl ⟨by rw [HRZ.out]; decide, by rw [HRZ.out]; rfl⟩⟩
end Go.Proofs.Ytnidcmhfbkdioaa
