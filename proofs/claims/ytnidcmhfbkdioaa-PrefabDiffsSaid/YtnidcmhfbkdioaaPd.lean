/-
  Templates in memory; plain: what a template builds. Conditions: none.
-/
import Derived.Test.YtnidcmhfbkdioaaPc
namespace Go.Proofs.Ytnidcmhfbkdioaa
open Go.RowKit
set_option maxRecDepth 100000

/-- A replacement in memory. -/
structure Ov where
  pA : Option Addr
  pn : Nat
  pc : Nat
  path : List Int
  K : Int
  F : Int
  V : Int
def Ov.cs (x : Ov) : List Value := [.slice x.pA x.pn x.pc, .int .i64 x.K, .int .i64 x.F, .int .i64 x.V]
def ovCs (l : List Ov) : List Value := l.flatMap Ov.cs
theorem ovCs_length (l : List Ov) : (ovCs l).length = l.length * 4 := by
  induction l with
  | nil => rfl
  | cons a l ih => rw [show ovCs (a :: l) = Ov.cs a ++ ovCs l by simp [ovCs], List.length_append, ih, List.length_cons]; simp [Ov.cs]; omega
theorem ovCs_get (l : List Ov) (k j : Nat) (f : Ov) (h : l[k]? = some f) (hj : j < 4) : (ovCs l)[k * 4 + j]? = (Ov.cs f)[j]? := by
  induction l generalizing k with
  | nil => simp at h
  | cons a l ih =>
    have e : ovCs (a :: l) = Ov.cs a ++ ovCs l := by simp [ovCs]
    rw [e]
    cases k with
    | zero =>
      have ea : a = f := by simpa using h
      subst ea
      rw [List.getElem?_append_left (by simp [Ov.cs]; omega)]
      congr 1; omega
    | succ k =>
      rw [List.getElem?_append_right (by simp [Ov.cs]; omega)]
      rw [show (k + 1) * 4 + j - (Ov.cs a).length = k * 4 + j by simp [Ov.cs]; omega]
      exact ih k (by simpa using h)
theorem Rd.ov {w : World} {B n : Nat} {A : Option Addr} {l : List Ov} {k : Nat} {f : Ov} (h : Rd w B 4 A n (ovCs l)) (hk : k < n) (hf : l[k]? = some f) :
    ∃ b o, A = some ⟨b, o, none⟩ ∧ b < B ∧ w.cell? ⟨b, o + k * 4, none⟩ = some (.slice f.pA f.pn f.pc) ∧ w.cell? ⟨b, o + k * 4 + 1, none⟩ = some (.int .i64 f.K) ∧ w.cell? ⟨b, o + k * 4 + 2, none⟩ = some (.int .i64 f.F) ∧ w.cell? ⟨b, o + k * 4 + 3, none⟩ = some (.int .i64 f.V) := by
  obtain ⟨b, o, e, hb, hc⟩ := h.2 (by omega)
  exact ⟨b, o, e, hb, hc (k * 4) _ ((ovCs_get l k 0 f hf (by omega)).trans rfl), by rw [Nat.add_assoc]; exact hc (k * 4 + 1) _ ((ovCs_get l k 1 f hf (by omega)).trans rfl), by rw [Nat.add_assoc]; exact hc (k * 4 + 2) _ ((ovCs_get l k 2 f hf (by omega)).trans rfl), by rw [Nat.add_assoc]; exact hc (k * 4 + 3) _ ((ovCs_get l k 3 f hf (by omega)).trans rfl)⟩
structure OvOk (w : World) (B : Nat) (x : Ov) : Prop where
  rd : Rd w B 1 x.pA x.pn (x.path.map (Value.int .i64))
  len : x.pn = x.path.length
  cap : x.pn ≤ x.pc
  cap2 : x.pc ≤ 9223372036854775807
  wK : (Lit.int .i64 x.K).wf = true
  wF : (Lit.int .i64 x.F).wf = true
  wV : (Lit.int .i64 x.V).wf = true
theorem OvOk.below {w w' : World} {B : Nat} {x : Ov} (h : OvOk w B x) (hb : Below B w w') : OvOk w' B x := ⟨h.rd.below hb, h.len, h.cap, h.cap2, h.wK, h.wF, h.wV⟩
structure OvsOk (w : World) (B : Nat) (A : Option Addr) (n c : Nat) (l : List Ov) : Prop where
  rd : Rd w B 4 A n (ovCs l)
  len : n = l.length
  cap : n ≤ c
  cap2 : c ≤ 9223372036854775807
  ok : ∀ x ∈ l, OvOk w B x
  lo : B ≤ w.heap.size
theorem OvsOk.below {w w' : World} {B n c : Nat} {A : Option Addr} {l : List Ov} (h : OvsOk w B A n c l) (hb : Below B w w') : OvsOk w' B A n c l :=
  ⟨h.rd.below hb, h.len, h.cap, h.cap2, fun x hx => (h.ok x hx).below hb, Nat.le_trans h.lo hb.size⟩
def Ov.p (x : Ov) : List Int × Int × Int × Int := (x.path, x.K, x.F, x.V)
/-- A part in memory. -/
structure Pt where
  of_ : Int
  oA : Option Addr
  on : Nat
  oc : Nat
  ovs : List Ov
def Pt.cs (x : Pt) : List Value := [.int .i64 x.of_, .slice x.oA x.on x.oc]
def ptCs (l : List Pt) : List Value := l.flatMap Pt.cs
theorem ptCs_length (l : List Pt) : (ptCs l).length = l.length * 2 := by
  induction l with
  | nil => rfl
  | cons a l ih => rw [show ptCs (a :: l) = Pt.cs a ++ ptCs l by simp [ptCs], List.length_append, ih, List.length_cons]; simp [Pt.cs]; omega
theorem ptCs_get (l : List Pt) (k j : Nat) (f : Pt) (h : l[k]? = some f) (hj : j < 2) : (ptCs l)[k * 2 + j]? = (Pt.cs f)[j]? := by
  induction l generalizing k with
  | nil => simp at h
  | cons a l ih =>
    have e : ptCs (a :: l) = Pt.cs a ++ ptCs l := by simp [ptCs]
    rw [e]
    cases k with
    | zero =>
      have ea : a = f := by simpa using h
      subst ea
      rw [List.getElem?_append_left (by simp [Pt.cs]; omega)]
      congr 1; omega
    | succ k =>
      rw [List.getElem?_append_right (by simp [Pt.cs]; omega)]
      rw [show (k + 1) * 2 + j - (Pt.cs a).length = k * 2 + j by simp [Pt.cs]; omega]
      exact ih k (by simpa using h)
theorem Rd.pt {w : World} {B n : Nat} {A : Option Addr} {l : List Pt} {k : Nat} {f : Pt} (h : Rd w B 2 A n (ptCs l)) (hk : k < n) (hf : l[k]? = some f) :
    ∃ b o, A = some ⟨b, o, none⟩ ∧ b < B ∧ w.cell? ⟨b, o + k * 2, none⟩ = some (.int .i64 f.of_) ∧ w.cell? ⟨b, o + k * 2 + 1, none⟩ = some (.slice f.oA f.on f.oc) := by
  obtain ⟨b, o, e, hb, hc⟩ := h.2 (by omega)
  exact ⟨b, o, e, hb, hc (k * 2) _ ((ptCs_get l k 0 f hf (by omega)).trans rfl), by rw [Nat.add_assoc]; exact hc (k * 2 + 1) _ ((ptCs_get l k 1 f hf (by omega)).trans rfl)⟩
structure PtOk (w : World) (B : Nat) (x : Pt) : Prop where
  ov : OvsOk w B x.oA x.on x.oc x.ovs
  wf : (Lit.int .i64 x.of_).wf = true
theorem PtOk.below {w w' : World} {B : Nat} {x : Pt} (h : PtOk w B x) (hb : Below B w w') : PtOk w' B x := ⟨h.ov.below hb, h.wf⟩
structure PtsOk (w : World) (B : Nat) (A : Option Addr) (n c : Nat) (l : List Pt) : Prop where
  rd : Rd w B 2 A n (ptCs l)
  len : n = l.length
  cap : n ≤ c
  cap2 : c ≤ 9223372036854775807
  ok : ∀ x ∈ l, PtOk w B x
  lo : B ≤ w.heap.size
theorem PtsOk.below {w w' : World} {B n c : Nat} {A : Option Addr} {l : List Pt} (h : PtsOk w B A n c l) (hb : Below B w w') : PtsOk w' B A n c l :=
  ⟨h.rd.below hb, h.len, h.cap, h.cap2, fun x hx => (h.ok x hx).below hb, Nat.le_trans h.lo hb.size⟩
def Pt.p (x : Pt) : Int × List (List Int × Int × Int × Int) := (x.of_, x.ovs.map Ov.p)
/-- A template in memory. -/
structure Pf where
  cA : Option Addr
  cn : Nat
  cc : Nat
  cms : List Cm
  tA : Option Addr
  tn : Nat
  tc : Nat
  pts : List Pt
def Pf.cs (x : Pf) : List Value := [.slice x.cA x.cn x.cc, .slice x.tA x.tn x.tc]
def pfCs (l : List Pf) : List Value := l.flatMap Pf.cs
theorem pfCs_length (l : List Pf) : (pfCs l).length = l.length * 2 := by
  induction l with
  | nil => rfl
  | cons a l ih => rw [show pfCs (a :: l) = Pf.cs a ++ pfCs l by simp [pfCs], List.length_append, ih, List.length_cons]; simp [Pf.cs]; omega
theorem pfCs_get (l : List Pf) (k j : Nat) (f : Pf) (h : l[k]? = some f) (hj : j < 2) : (pfCs l)[k * 2 + j]? = (Pf.cs f)[j]? := by
  induction l generalizing k with
  | nil => simp at h
  | cons a l ih =>
    have e : pfCs (a :: l) = Pf.cs a ++ pfCs l := by simp [pfCs]
    rw [e]
    cases k with
    | zero =>
      have ea : a = f := by simpa using h
      subst ea
      rw [List.getElem?_append_left (by simp [Pf.cs]; omega)]
      congr 1; omega
    | succ k =>
      rw [List.getElem?_append_right (by simp [Pf.cs]; omega)]
      rw [show (k + 1) * 2 + j - (Pf.cs a).length = k * 2 + j by simp [Pf.cs]; omega]
      exact ih k (by simpa using h)
theorem Rd.pf {w : World} {B n : Nat} {A : Option Addr} {l : List Pf} {k : Nat} {f : Pf} (h : Rd w B 2 A n (pfCs l)) (hk : k < n) (hf : l[k]? = some f) :
    ∃ b o, A = some ⟨b, o, none⟩ ∧ b < B ∧ w.cell? ⟨b, o + k * 2, none⟩ = some (.slice f.cA f.cn f.cc) ∧ w.cell? ⟨b, o + k * 2 + 1, none⟩ = some (.slice f.tA f.tn f.tc) := by
  obtain ⟨b, o, e, hb, hc⟩ := h.2 (by omega)
  exact ⟨b, o, e, hb, hc (k * 2) _ ((pfCs_get l k 0 f hf (by omega)).trans rfl), by rw [Nat.add_assoc]; exact hc (k * 2 + 1) _ ((pfCs_get l k 1 f hf (by omega)).trans rfl)⟩
structure PfOk (w : World) (B : Nat) (x : Pf) : Prop where
  cs : CsOk w B x.cA x.cn x.cc x.cms
  ts : PtsOk w B x.tA x.tn x.tc x.pts
theorem PfOk.below {w w' : World} {B : Nat} {x : Pf} (h : PfOk w B x) (hb : Below B w w') : PfOk w' B x := ⟨h.cs.below hb, h.ts.below hb⟩
structure PfsOk (w : World) (B : Nat) (A : Option Addr) (n c : Nat) (l : List Pf) : Prop where
  rd : Rd w B 2 A n (pfCs l)
  len : n = l.length
  cap : n ≤ c
  cap2 : c ≤ 9223372036854775807
  ok : ∀ x ∈ l, PfOk w B x
  lo : B ≤ w.heap.size
theorem PfsOk.below {w w' : World} {B n c : Nat} {A : Option Addr} {l : List Pf} (h : PfsOk w B A n c l) (hb : Below B w w') : PfsOk w' B A n c l :=
  ⟨h.rd.below hb, h.len, h.cap, h.cap2, fun x hx => (h.ok x hx).below hb, Nat.le_trans h.lo hb.size⟩
def Pf.p (x : Pf) : List (Int × List Int) × List (Int × List (List Int × Int × Int × Int)) := (x.cms.map Cm.p, x.pts.map Pt.p)
abbrev Tpl := List (Int × List Int) × List (Int × List (List Int × Int × Int × Int))
abbrev Blt := List Int × List (Int × List Int)
/-- The first element of a kind, changed. -/
def modF {α : Type} (p : α → Bool) (f : α → α) : List α → List α
  | [] => []
  | a :: l => if p a = true then f a :: l else a :: modF p f l
theorem modF_length {α : Type} (p : α → Bool) (f : α → α) (l : List α) : (modF p f l).length = l.length := by
  induction l with
  | nil => rfl
  | cons a l ih => unfold modF; split <;> simp [ih]
theorem modF_hit {α : Type} {p : α → Bool} {f : α → α} : ∀ {l : List α} {i : Nat} {x : α}, l[i]? = some x → p x = true → (∀ (j : Nat) (y : α), j < i → l[j]? = some y → p y = false) → modF p f l = l.set i (f x)
  | [], _, _, h, _, _ => by simp at h
  | a :: r, 0, x, h, hp, _ => by
    have e : a = x := by simpa using h
    rw [modF, e, if_pos hp]; rfl
  | a :: r, i + 1, x, h, hp, hf => by
    rw [modF, if_neg (by rw [hf 0 a (by omega) rfl]; simp), modF_hit (by simpa using h) hp fun j y hj hy => hf (j + 1) y (by omega) (by simpa using hy)]; rfl
/-- A replacement, made. -/
def ovSet (l : List Blt) (path : List Int) (K F V : Int) : List Blt :=
  modF (fun x => decide (x.1 = path)) (fun x => (x.1, modF (fun c => decide (c.1 = K)) (fun c => (c.1, c.2.set F.toNat V)) x.2)) l
/-- All replacements, one after another: the first fault, or what they make. -/
def oversF (ks : List Kp2) : List (List Int × Int × Int × Int) → List Blt → Int × List Blt
  | [], out => (0, out)
  | o :: r, out => if ovCode ks out o.1 o.2.1 o.2.2.1 o.2.2.2 ≠ 0 then (ovCode ks out o.1 o.2.1 o.2.2.1 o.2.2.2, []) else oversF ks r (ovSet out o.1 o.2.1 o.2.2.1 o.2.2.2)
/-- The parts of a template, from part i on, behind what is built already. -/
def partsF (build : Int → List (List Int × Int × Int × Int) → Int × List Blt) : Nat → List (Int × List (List Int × Int × Int × Int)) → List Blt → Int × List Blt
  | _, [], out => (0, out)
  | i, p :: r, out => if (build p.1 p.2).1 ≠ 0 then ((build p.1 p.2).1, []) else
      if 200 < (out ++ (build p.1 p.2).2.map fun b => ((i : Int) :: b.1, b.2)).length then (2, []) else partsF build (i + 1) r (out ++ (build p.1 p.2).2.map fun b => ((i : Int) :: b.1, b.2))
/-- prefab.build of template n, at most d templates within one another. -/
def buildF (ks : List Kp2) (ts : List Tpl) : Nat → Int → List (List Int × Int × Int × Int) → Int × List Blt
  | 0, _, _ => (0, [])
  | d + 1, n, overs => if 40 < overs.length then (2, []) else
    match ts[n.toNat]? with
    | none => (0, [])
    | some t => match partsF (buildF ks ts d) 0 t.2 [([], t.1)] with
      | (e, out) => if e ≠ 0 then (e, []) else oversF ks overs out
end Go.Proofs.Ytnidcmhfbkdioaa
