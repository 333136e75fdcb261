/-
  The built entities behind a replacement. Conditions: components in blocks of their own.
-/
import Derived.Test.YtnidcmhfbkdioaaPe
namespace Go.Proofs.Ytnidcmhfbkdioaa
open Go.RowKit
set_option maxRecDepth 100000

theorem RdY.farC {w : World} {B e size n b i : Nat} {A : Option Addr} {xs : List Value} (h : RdY w B e size A n xs) (hne : 0 < n → ∀ b' o', A = some ⟨b', o', none⟩ → b' ≠ b) (u : Value) : RdY (w.setCell ⟨b, i, none⟩ u) B e size A n xs := by
  refine ⟨h.1, fun hn => ?_⟩
  obtain ⟨b', o', e1, h1, h2, h3⟩ := h.2 hn
  have hb' := hne hn b' o' e1
  have hh : (w.setCell ⟨b, i, none⟩ u).heap[b']? = w.heap[b']? := Below.heap_setCell w ⟨b, i, none⟩ u b' hb'
  refine ⟨b', o', e1, ?_, h2.imp id fun ⟨cs, h⟩ => ⟨cs, hh.trans h⟩, fun j v hv => (World.cell?_of_block (w := w) hh).trans (h3 j v hv)⟩
  have := (Kx.refl (B := 0) (F := []) (w := w)).size
  simpa using h1
theorem BtY.farC {w : World} {base b i : Nat} {x : Bt} {cs : Array Value} (h : BtY w base x) (hb : Bk w b 166 cs) (hne : 0 < x.cn → ∀ b' o', x.cA = some ⟨b', o', none⟩ → b' ≠ b) (u : Value) : BtY (w.setCell ⟨b, i, none⟩ u) base x := by
  have hk : Kx 0 [166] w (w.setCell ⟨b, i, none⟩ u) := (Kx.refl (B := 0) (F := [166])).set hb (Nat.zero_le _) (by simp) _ _
  refine ⟨h.rd.keep hk (by decide), h.len, h.cap, h.cap2, ⟨h.cs.rd.farC hne u, h.cs.len, h.cs.cap, h.cs.cap2, fun y hy => ⟨(h.cs.ok y hy).rd.keep hk (by decide), (h.cs.ok y hy).len, (h.cs.ok y hy).cap, (h.cs.ok y hy).cap2, (h.cs.ok y hy).wf⟩⟩, fun hn => ?_⟩
  obtain ⟨b', o', cs', h1, h2, h3⟩ := h.own hn
  exact ⟨b', o', cs', h1, h2, h3.far (p := ⟨b, i, none⟩) (hne hn b' o' h1) u⟩
theorem KsOk.moreP {w : World} {B B' n c : Nat} {A : Option Addr} {l : List Kd} (h : KsOk w B A n c l) (hB : B ≤ B') (hB' : B' ≤ w.heap.size) : KsOk w B' A n c l :=
  ⟨h.rd.more hB, h.len, h.cap, h.cap2, fun x hx => ⟨(h.ok x hx).rd.more hB, (h.ok x hx).len, (h.ok x hx).cap, (h.ok x hx).cap2⟩, hB'⟩
/-- Built entities, each with components in a block of its own. -/
structure BsY (w : World) (base : Nat) (l : List Bt) : Prop where
  ok : ∀ x ∈ l, BtY w base x
  dis : ∀ (i j : Nat) (x y : Bt), i ≠ j → l[i]? = some x → l[j]? = some y → 0 < x.cn → 0 < y.cn → ∀ b o b' o', x.cA = some ⟨b, o, none⟩ → y.cA = some ⟨b', o', none⟩ → b ≠ b'
theorem BsY.keep {w w' : World} {base : Nat} {l : List Bt} {F : List TypeId} (h : BsY w base l) (hq : Kx 0 F w w') (h3 : (3 : TypeId) ∉ F) (h166 : (166 : TypeId) ∉ F) : BsY w' base l := ⟨fun x hx => (h.ok x hx).keep hq h3 h166, h.dis⟩
theorem btCs_cons (a : Bt) (l : List Bt) : btCs (a :: l) = Bt.cs a ++ btCs l := by simp [btCs]
theorem btCs_set : ∀ {l : List Bt} {i : Nat} {x y : Bt}, l[i]? = some x → Bt.cs y = Bt.cs x → btCs (l.set i y) = btCs l
  | [], _, _, _, h, _ => by simp at h
  | a :: r, 0, x, y, h, e => by
    have e1 : a = x := by simpa using h
    subst e1
    rw [List.set_cons_zero, btCs_cons, btCs_cons, e]
  | a :: r, i + 1, x, y, h, e => by rw [List.set_cons_succ, btCs_cons, btCs_cons, btCs_set (by simpa using h) e]
theorem BsY.over {w w' : World} {base : Nat} {l : List Bt} {path : List Int} {K F V : Int} (h : BsY w base l) (hbase : base ≤ w.heap.size) (hd : OvDone w l path K F V w') :
    ∃ l', BsY w' base l' ∧ l'.map Bt.p = ovSet (l.map Bt.p) path K F V ∧ btCs l' = btCs l ∧ l'.length = l.length ∧ Below base w w' ∧ Kx base [166] w w' ∧ (∀ P : Int → Nat → Prop, (∀ x ∈ l, ∀ cm ∈ x.cms, P cm.k cm.n) → ∀ x ∈ l', ∀ cm ∈ x.cms, P cm.k cm.n) := by
  obtain ⟨i, j, x, cm, g, c', b, o, w1, hx, hxp, hxf, hcm, hck, hcf, hF0, hF1, hA, hown, hb1, rfl⟩ := hd
  have hk1 : Kx 0 [] w w1 := Kx.of_below hb1
  have h1 := h.keep hk1 (by simp) (by simp)
  have hxm := List.mem_of_getElem? hx
  have hx1 := h1.ok x hxm
  have hjl := (List.getElem?_eq_some_iff.1 hcm).1
  have hcn : 0 < x.cn := by have := hx1.cs.len; omega
  obtain ⟨b0, o0, cs, e0, hbb, hbk⟩ := hx1.own hcn
  rw [hA] at e0
  injection e0 with e0
  injection e0 with e1 e2
  subst e1 e2
  have hcs := hx1.cs
  rw [hA] at hcs
  have hcmo := hcs.ok cm (List.mem_of_getElem? hcm)
  have hcs' := hcs.set_ hbk hcm (RdY.of_own hown) (by rw [List.length_set]; exact hcmo.len) (own_cap2 hown)
  have hk2 : Kx 0 [166] w1 (w1.setCell ⟨b, o + j * 2 + 1, none⟩ (.slice (some ⟨g, 0, none⟩) cm.n c')) := (Kx.refl (B := 0) (F := [166])).set hbk (Nat.zero_le _) (by simp) _ _
  have hil := (List.getElem?_eq_some_iff.1 hx).1
  refine ⟨l.set i ⟨x.pA, x.pn, x.pc, x.path, x.cA, x.cn, x.cc, x.cms.set j ⟨cm.k, some ⟨g, 0, none⟩, cm.n, c', cm.vals.set F.toNat V⟩⟩, ⟨fun y hy => ?_, fun p q y z hpq hy hz hyn hzn b1 o1 b2 o2 ha1 ha2 => ?_⟩, ?_, btCs_set hx rfl, List.length_set, ?_, ?_, fun P hP y hy c2 hc2 => ?_⟩
  · obtain ⟨q, hq, rfl⟩ := List.getElem_of_mem hy
    have hq2 : q < l.length := by rw [List.length_set] at hq; exact hq
    by_cases hqi : i = q
    · subst hqi
      rw [List.getElem_set_self]
      exact ⟨hx1.rd.keep hk2 (by decide), hx1.len, hx1.cap, hx1.cap2, by show CsY _ 0 x.cA x.cn x.cc _; rw [hA]; exact hcs', fun _ => ⟨b, o, _, hA, hbb, hbk.set_ _ _⟩⟩
    · rw [List.getElem_set_ne hqi]
      refine (h1.ok _ (List.getElem_mem hq2)).farC hbk (fun hn b' o' hb' => ?_) _
      exact fun e => h1.dis i q x l[q] hqi hx (List.getElem?_eq_getElem hq2) hcn hn b o b' o' hA hb' e.symm
  · rw [List.getElem?_set] at hy hz
    have hy' : ∃ y0, l[p]? = some y0 ∧ y.cA = y0.cA ∧ y.cn = y0.cn := by
      by_cases hip : i = p
      · subst hip
        rw [if_pos rfl, if_pos hil] at hy
        injection hy with hy
        subst hy
        exact ⟨x, hx, rfl, rfl⟩
      · rw [if_neg hip] at hy
        exact ⟨y, hy, rfl, rfl⟩
    have hz' : ∃ z0, l[q]? = some z0 ∧ z.cA = z0.cA ∧ z.cn = z0.cn := by
      by_cases hiq : i = q
      · subst hiq
        rw [if_pos rfl, if_pos hil] at hz
        injection hz with hz
        subst hz
        exact ⟨x, hx, rfl, rfl⟩
      · rw [if_neg hiq] at hz
        exact ⟨z, hz, rfl, rfl⟩
    obtain ⟨y0, ey1, ey2, ey3⟩ := hy'
    obtain ⟨z0, ez1, ez2, ez3⟩ := hz'
    exact h.dis p q y0 z0 hpq ey1 ez1 (by omega) (by omega) b1 o1 b2 o2 (by rw [← ey2]; exact ha1) (by rw [← ez2]; exact ha2)
  · unfold ovSet
    have e1 : (l.map Bt.p)[i]? = some (Bt.p x) := by rw [List.getElem?_map, hx]; rfl
    rw [modF_hit e1 (decide_eq_true hxp) (fun q y hq hy => by
      rw [List.getElem?_map] at hy
      cases hlq : l[q]? with
      | none => rw [hlq] at hy; simp at hy
      | some y0 =>
        rw [hlq] at hy
        have e : Bt.p y0 = y := by simpa using hy
        rw [← e]; exact decide_eq_false (hxf q y0 hq hlq))]
    have e2 : (x.cms.map Cm.p)[j]? = some (Cm.p cm) := by rw [List.getElem?_map, hcm]; rfl
    have e3 := modF_hit (p := fun c : Int × List Int => decide (c.1 = K)) (f := fun c => (c.1, c.2.set F.toNat V)) e2 (decide_eq_true hck) (fun q y hq hy => by
      rw [List.getElem?_map] at hy
      cases hlq : x.cms[q]? with
      | none => rw [hlq] at hy; simp at hy
      | some y0 =>
        rw [hlq] at hy
        have e : Cm.p y0 = y := by simpa using hy
        rw [← e]; exact decide_eq_false (hcf q y0 hq hlq))
    rw [List.map_set]
    congr 1
    unfold Bt.p at e3 ⊢
    dsimp only at e3 ⊢
    rw [e3, List.map_set]; rfl
  · exact (hb1.mono hbase).setCell (p := ⟨b, o + j * 2 + 1, none⟩) hbb _
  · exact (Kx.of_below hb1).trans ((Kx.refl (B := base) (F := [166])).set hbk hbb (by simp) _ _)
  · rcases List.mem_or_eq_of_mem_set hy with hy | hy
    · exact hP y hy c2 hc2
    · subst hy
      rcases List.mem_or_eq_of_mem_set hc2 with hc2 | hc2
      · exact hP x hxm c2 hc2
      · subst hc2; exact hP x hxm cm (List.mem_of_getElem? hcm)
end Go.Proofs.Ytnidcmhfbkdioaa
