/-
  Components as data; the contract of world.held. Conditions: what is read can be read.
-/
import Derived.Test.YtnidcmhfbkdioaaWe
namespace Go.Proofs.Ytnidcmhfbkdioaa
open Go.RowKit
set_option maxRecDepth 100000

structure Cm where
  k : Int
  A : Option Addr
  n : Nat
  c : Nat
  vals : List Int
def Cm.cs (x : Cm) : List Value := [.int .i64 x.k, .slice x.A x.n x.c]
def cmCs (l : List Cm) : List Value := l.flatMap Cm.cs
structure CmOk (w : World) (B : Nat) (x : Cm) : Prop where
  rd : Rd w B 1 x.A x.n (x.vals.map (Value.int .i64))
  len : x.n = x.vals.length
  cap : x.n ≤ x.c
  cap2 : x.c ≤ 9223372036854775807
  wf : (Lit.int .i64 x.k).wf = true
theorem CmOk.below {w w' : World} {B : Nat} {x : Cm} (h : CmOk w B x) (hb : Below B w w') : CmOk w' B x := ⟨h.rd.below hb, h.len, h.cap, h.cap2, h.wf⟩
def Cm.p (x : Cm) : Int × List Int := (x.k, x.vals)
theorem cmCs_get (l : List Cm) (k j : Nat) (f : Cm) (h : l[k]? = some f) (hj : j < 2) : (cmCs l)[k * 2 + j]? = (Cm.cs f)[j]? := by
  induction l generalizing k with
  | nil => simp at h
  | cons a l ih =>
    have e : cmCs (a :: l) = Cm.cs a ++ cmCs l := by simp [cmCs]
    rw [e]
    cases k with
    | zero =>
      have ea : a = f := by simpa using h
      subst ea
      rw [List.getElem?_append_left (by simp [Cm.cs]; omega)]
      congr 1; omega
    | succ k =>
      rw [List.getElem?_append_right (by simp [Cm.cs]; omega)]
      rw [show (k + 1) * 2 + j - (Cm.cs a).length = k * 2 + j by simp [Cm.cs]; omega]
      exact ih k (by simpa using h)
theorem Rd.cm {w : World} {B n : Nat} {A : Option Addr} {l : List Cm} {k : Nat} {f : Cm} (h : Rd w B 2 A n (cmCs l)) (hk : k < n) (hf : l[k]? = some f) :
    ∃ b o, A = some ⟨b, o, none⟩ ∧ b < B ∧ w.cell? ⟨b, o + k * 2, none⟩ = some (.int .i64 f.k) ∧ w.cell? ⟨b, o + k * 2 + 1, none⟩ = some (.slice f.A f.n f.c) := by
  obtain ⟨b, o, e, hb, hc⟩ := h.2 (by omega)
  exact ⟨b, o, e, hb, hc (k * 2) _ ((cmCs_get l k 0 f hf (by omega)).trans rfl), by rw [Nat.add_assoc]; exact hc (k * 2 + 1) _ ((cmCs_get l k 1 f hf (by omega)).trans rfl)⟩
structure CsOk (w : World) (B : Nat) (A : Option Addr) (n c : Nat) (l : List Cm) : Prop where
  rd : Rd w B 2 A n (cmCs l)
  len : n = l.length
  cap : n ≤ c
  cap2 : c ≤ 9223372036854775807
  ok : ∀ x ∈ l, CmOk w B x
  lo : B ≤ w.heap.size
theorem CsOk.below {w w' : World} {B n c : Nat} {A : Option Addr} {l : List Cm} (h : CsOk w B A n c l) (hb : Below B w w') : CsOk w' B A n c l :=
  ⟨h.rd.below hb, h.len, h.cap, h.cap2, fun x hx => (h.ok x hx).below hb, Nat.le_trans h.lo hb.size⟩
theorem CsOk.more {w : World} {B B' n c : Nat} {A : Option Addr} {l : List Cm} (h : CsOk w B A n c l) (hB : B ≤ B') (hB' : B' ≤ w.heap.size) : CsOk w B' A n c l :=
  ⟨h.rd.more hB, h.len, h.cap, h.cap2, fun x hx => ⟨(h.ok x hx).rd.more hB, (h.ok x hx).len, (h.ok x hx).cap, (h.ok x hx).cap2, (h.ok x hx).wf⟩, hB'⟩
/-- One component. -/
def heldOne (ks : List (ByteArray × List Fd)) (last : Int) (x : Int × List Int) : Bool :=
  decide (last < x.1) && match ks[x.1.toNat]? with
    | some k => holdsF k.1 k.2 x.2
    | none => false
def heldF (ks : List (ByteArray × List Fd)) : Int → List (Int × List Int) → Bool
  | _, [] => true
  | last, x :: l => heldOne ks last x && heldF ks x.1 l
end Go.Proofs.Ytnidcmhfbkdioaa
