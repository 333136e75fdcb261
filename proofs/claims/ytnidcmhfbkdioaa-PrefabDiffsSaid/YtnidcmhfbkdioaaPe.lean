/-
  What a store into a row of components leaves; built entities whose components lie in blocks of their own. Conditions: none.
-/
import Derived.Test.YtnidcmhfbkdioaaPd
import Derived.Test.YtnidcmhfbkdioaaMg
namespace Go.Proofs.Ytnidcmhfbkdioaa
open Go.RowKit
set_option maxRecDepth 100000

theorem cmCs_cons (a : Cm) (l : List Cm) : cmCs (a :: l) = Cm.cs a ++ cmCs l := by simp [cmCs]
theorem cmCs_set : ∀ {l : List Cm} {j : Nat} {cm : Cm}, l[j]? = some cm → ∀ (A : Option Addr) (n c : Nat) (vals : List Int), cmCs (l.set j ⟨cm.k, A, n, c, vals⟩) = (cmCs l).set (j * 2 + 1) (.slice A n c)
  | [], _, _, h, _, _, _, _ => by simp at h
  | a :: r, 0, cm, h, A, n, c, vals => by
    have e : a = cm := by simpa using h
    subst e
    rw [List.set_cons_zero, cmCs_cons, cmCs_cons]; rfl
  | a :: r, j + 1, cm, h, A, n, c, vals => by
    rw [List.set_cons_succ, cmCs_cons, cmCs_cons, cmCs_set (by simpa using h) A n c vals, show (j + 1) * 2 + 1 = (j * 2 + 1) + 2 by omega]; rfl
theorem RdY.setC {w : World} {B e size n b o i : Nat} {xs : List Value} {cs : Array Value} (h : RdY w B e size (some ⟨b, o, none⟩) n xs) (hb : Bk w b e cs) (hi : i < xs.length) (u : Value) : RdY (w.setCell ⟨b, o + i, none⟩ u) B e size (some ⟨b, o, none⟩) n (xs.set i u) := by
  refine ⟨by rw [List.length_set]; exact h.1, fun hn => ?_⟩
  obtain ⟨b', o', e1, h1, h2, h3⟩ := h.2 hn
  injection e1 with e1
  injection e1 with e1 e2
  subst e1 e2
  have hb' := hb.set_ (o + i) u
  have hci : o + i < cs.size := by
    have h4 := h3 i xs[i] (List.getElem?_eq_getElem hi)
    rw [hb.cell] at h4
    exact (Array.getElem?_eq_some_iff.1 h4).1
  refine ⟨b, o, rfl, hb'.lt, .inr ⟨_, hb'⟩, fun j v hv => ?_⟩
  rw [hb'.cell, Array.getElem?_setIfInBounds]
  rw [List.getElem?_set] at hv
  by_cases hij : i = j
  · subst hij
    rw [if_pos rfl, if_pos hi] at hv
    rw [if_pos rfl, if_pos hci]
    exact hv
  · rw [if_neg hij] at hv
    rw [if_neg (by omega), ← hb.cell]
    exact h3 j v hv
/-- Component j has a new row of values. -/
theorem CsY.set_ {w : World} {n c b o j g c' : Nat} {l : List Cm} {cm : Cm} {cs : Array Value} {vals : List Int} (h : CsY w 0 (some ⟨b, o, none⟩) n c l) (hb : Bk w b 166 cs) (hj : l[j]? = some cm) (hr : RdY w 0 3 1 (some ⟨g, 0, none⟩) cm.n (vals.map (Value.int .i64))) (hn : cm.n = vals.length) (hc : cm.n ≤ c' ∧ c' ≤ 9223372036854775807) :
    CsY (w.setCell ⟨b, o + j * 2 + 1, none⟩ (.slice (some ⟨g, 0, none⟩) cm.n c')) 0 (some ⟨b, o, none⟩) n c (l.set j ⟨cm.k, some ⟨g, 0, none⟩, cm.n, c', vals⟩) := by
  have hjl := (List.getElem?_eq_some_iff.1 hj).1
  have hk : Kx 0 [166] w (w.setCell ⟨b, o + j * 2 + 1, none⟩ (.slice (some ⟨g, 0, none⟩) cm.n c')) := (Kx.refl (B := 0) (F := [166])).set hb (Nat.zero_le _) (by simp) _ _
  have hlen : (cmCs l).length = l.length * 2 := by rw [h.rd.1, h.len]
  refine ⟨?_, by rw [List.length_set]; exact h.len, h.cap, h.cap2, fun x hx => ?_⟩
  · rw [cmCs_set hj, Nat.add_assoc]
    exact h.rd.setC hb (by omega) _
  · rcases List.mem_or_eq_of_mem_set hx with hx | hx
    · have h1 := h.ok x hx
      exact ⟨h1.rd.keep hk (by decide), h1.len, h1.cap, h1.cap2, h1.wf⟩
    · subst hx
      exact ⟨hr.keep hk (by decide), hn, hc.1, hc.2, (h.ok cm (List.mem_of_getElem? hj)).wf⟩
/-- A built entity whose components lie in a block of their own. -/
structure BtY (w : World) (base : Nat) (x : Bt) : Prop where
  rd : RdY w 0 3 1 x.pA x.pn (x.path.map (Value.int .i64))
  len : x.pn = x.path.length
  cap : x.pn ≤ x.pc
  cap2 : x.pc ≤ 9223372036854775807
  cs : CsY w 0 x.cA x.cn x.cc x.cms
  own : 0 < x.cn → ∃ b o cs, x.cA = some ⟨b, o, none⟩ ∧ base ≤ b ∧ Bk w b 166 cs
theorem BtY.keep {w w' : World} {base : Nat} {x : Bt} {F : List TypeId} (h : BtY w base x) (hq : Kx 0 F w w') (h3 : (3 : TypeId) ∉ F) (h166 : (166 : TypeId) ∉ F) : BtY w' base x :=
  ⟨h.rd.keep hq h3, h.len, h.cap, h.cap2, ⟨h.cs.rd.keep hq h166, h.cs.len, h.cs.cap, h.cs.cap2, fun y hy => ⟨(h.cs.ok y hy).rd.keep hq h3, (h.cs.ok y hy).len, (h.cs.ok y hy).cap, (h.cs.ok y hy).cap2, (h.cs.ok y hy).wf⟩⟩, fun hn => by obtain ⟨b, o, cs, h1, h2, h4⟩ := h.own hn; exact ⟨b, o, cs, h1, h2, hq.bk h4 h166⟩⟩
end Go.Proofs.Ytnidcmhfbkdioaa
