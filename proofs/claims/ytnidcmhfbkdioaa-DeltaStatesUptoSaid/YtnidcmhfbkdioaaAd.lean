/-
  States in memory: rows of numbers (contacts, events), minds, a whole state. No condition.
-/
import Derived.Test.YtnidcmhfbkdioaaAb
namespace Go.Proofs.Ytnidcmhfbkdioaa
open Go.RowKit
set_option maxRecDepth 100000

theorem T.info225 : (Try.prog.info? 225).map (fun i => (i.zero, i.size, i.bytes)) = some (some (.agg #[.int .i64 0, .int .i64 0, .int .i64 0, .slice none 0 0]), 4, 48) := by kernel_rfl
theorem T.info227 : (Try.prog.info? 227).map (fun i => (i.zero, i.size, i.bytes)) = some (some (.agg #[.int .i64 0, .int .i64 0, .int .i64 0, .int .i64 0]), 4, 32) := by kernel_rfl
theorem T.info131S : (Try.prog.info? 131).map (fun i => (i.zero, i.size, i.bytes)) = some (some (.agg #[.int .i64 0, .int .i64 0, .int .i64 0, .int .i64 0, .int .i64 0, .int .i64 0, .int .i64 0, .int .i64 0, .int .i64 0, .int .i64 0]), 10, 80) := by kernel_rfl

/-- Rows of numbers, one behind the other, as cells. -/
def rwCs (l : List (List Int)) : List Value := l.flatMap fun x => x.map (Value.int .i64)
/-- A mind in memory. -/
structure Mdm where
  n : Int
  g : Int
  q : Int
  A : Option Addr
  k : Nat
  c : Nat
  st : List Int
def Mdm.cs (x : Mdm) : List Value := [.int .i64 x.n, .int .i64 x.g, .int .i64 x.q, .slice x.A x.k x.c]
def mdCs (l : List Mdm) : List Value := l.flatMap Mdm.cs
def Mdm.p (x : Mdm) : List Int × List Int := ([x.n, x.g, x.q], x.st)
structure MdY (w : World) (B : Nat) (x : Mdm) : Prop where
  rd : RdY w B 3 1 x.A x.k (x.st.map (Value.int .i64))
  len : x.k = x.st.length
  cap : x.k ≤ x.c
  cap2 : x.c ≤ 9223372036854775807
structure MsY (w : World) (B : Nat) (A : Option Addr) (n c : Nat) (l : List Mdm) : Prop where
  rd : RdY w B 225 4 A n (mdCs l)
  len : n = l.length
  cap : n ≤ c
  cap2 : c ≤ 9223372036854775807
  ok : ∀ x ∈ l, MdY w B x
structure FsY (w : World) (B : Nat) (e : TypeId) (k : Nat) (A : Option Addr) (n c : Nat) (l : List (List Int)) : Prop where
  rd : RdY w B e k A n (rwCs l)
  len : n = l.length
  cap : n ≤ c
  cap2 : c ≤ 9223372036854775807
  ok : ∀ x ∈ l, x.length = k
/-- The same, of memory below a bound. -/
structure MdO (w : World) (B : Nat) (x : Mdm) : Prop where
  rd : Rd w B 1 x.A x.k (x.st.map (Value.int .i64))
  len : x.k = x.st.length
  cap : x.k ≤ x.c
  cap2 : x.c ≤ 9223372036854775807
structure MsO (w : World) (B : Nat) (A : Option Addr) (n c : Nat) (l : List Mdm) : Prop where
  rd : Rd w B 4 A n (mdCs l)
  len : n = l.length
  cap : n ≤ c
  cap2 : c ≤ 9223372036854775807
  ok : ∀ x ∈ l, MdO w B x
structure FsO (w : World) (B : Nat) (k : Nat) (A : Option Addr) (n c : Nat) (l : List (List Int)) : Prop where
  rd : Rd w B k A n (rwCs l)
  len : n = l.length
  cap : n ≤ c
  cap2 : c ≤ 9223372036854775807
  ok : ∀ x ∈ l, x.length = k
/-- A state in memory. -/
structure Sm where
  T : Int
  d : Wd
  cA : Option Addr
  cn : Nat
  cc : Nat
  cts : List (List Int)
  mA : Option Addr
  mn : Nat
  mc : Nat
  mds : List Mdm
  eA : Option Addr
  en : Nat
  ec : Nat
  evs : List (List Int)
def Sm.cs (x : Sm) : Array Value := #[.int .i64 x.T, .slice x.d.kA x.d.kn x.d.kc, .slice x.d.gA x.d.gn x.d.gc, .slice x.d.iA x.d.im x.d.ic, .slice x.cA x.cn x.cc, .slice x.mA x.mn x.mc, .slice x.eA x.en x.ec]
def Sm.p (x : Sm) : Sv := ⟨x.T, x.d.p, x.cts, x.mds.map Mdm.p, x.evs⟩
structure SmY (w : World) (B : Nat) (x : Sm) : Prop where
  d : WdY w B x.d
  c : FsY w B 131 10 x.cA x.cn x.cc x.cts
  m : MsY w B x.mA x.mn x.mc x.mds
  e : FsY w B 227 4 x.eA x.en x.ec x.evs
structure SmO (w : World) (B : Nat) (x : Sm) : Prop where
  d : WdOk w B x.d
  c : FsO w B 10 x.cA x.cn x.cc x.cts
  m : MsO w B x.mA x.mn x.mc x.mds
  e : FsO w B 4 x.eA x.en x.ec x.evs
section
variable {w w' : World} {B k n c : Nat} {e : TypeId} {A : Option Addr} {F : List TypeId}
theorem MdY.keep {x : Mdm} (h : MdY w B x) (hq : Kx B F w w') (h3 : (3 : TypeId) ∉ F) : MdY w' B x := ⟨h.rd.keep hq h3, h.len, h.cap, h.cap2⟩
theorem MsY.keep {l : List Mdm} (h : MsY w B A n c l) (hq : Kx B F w w') (h3 : (3 : TypeId) ∉ F) (h225 : (225 : TypeId) ∉ F) : MsY w' B A n c l := ⟨h.rd.keep hq h225, h.len, h.cap, h.cap2, fun x hx => (h.ok x hx).keep hq h3⟩
theorem FsY.keep {l : List (List Int)} (h : FsY w B e k A n c l) (hq : Kx B F w w') (he : e ∉ F) : FsY w' B e k A n c l := ⟨h.rd.keep hq he, h.len, h.cap, h.cap2, h.ok⟩
theorem MdY.ok_ {x : Mdm} (h : MdY w B x) : MdO w w.heap.size x := ⟨h.rd.rd, h.len, h.cap, h.cap2⟩
theorem MsY.ok_ {l : List Mdm} (h : MsY w B A n c l) : MsO w w.heap.size A n c l := ⟨h.rd.rd, h.len, h.cap, h.cap2, fun x hx => (h.ok x hx).ok_⟩
theorem FsY.ok_ {l : List (List Int)} (h : FsY w B e k A n c l) : FsO w w.heap.size k A n c l := ⟨h.rd.rd, h.len, h.cap, h.cap2, h.ok⟩
theorem SmY.ok_ {x : Sm} (h : SmY w B x) : SmO w w.heap.size x := ⟨h.d.ok_, h.c.ok_, h.m.ok_, h.e.ok_⟩
theorem MdO.below {x : Mdm} (h : MdO w B x) (hb : Below B w w') : MdO w' B x := ⟨h.rd.below hb, h.len, h.cap, h.cap2⟩
theorem MsO.below {l : List Mdm} (h : MsO w B A n c l) (hb : Below B w w') : MsO w' B A n c l := ⟨h.rd.below hb, h.len, h.cap, h.cap2, fun x hx => (h.ok x hx).below hb⟩
theorem FsO.below {l : List (List Int)} (h : FsO w B k A n c l) (hb : Below B w w') : FsO w' B k A n c l := ⟨h.rd.below hb, h.len, h.cap, h.cap2, h.ok⟩
end
theorem rep_front {α : Type} (f : RS → α × RS) (n : Nat) (s : RS) : rep f (n + 1) s = ((f s).1 :: (rep f n (f s).2).1, (rep f n (f s).2).2) := by
  induction n with
  | zero => rfl
  | succ n ih =>
    show ((rep f (n + 1) s).1 ++ [(f (rep f (n + 1) s).2).1], (f (rep f (n + 1) s).2).2) = _
    rw [ih]
    rfl
theorem rMd_le (s : RS) : (rMd s).2.1.length ≤ s.1.length := Nat.le_trans (rL_le _).1 (rep_le rN rN_le 3 s)
theorem rCt_le (s : RS) : (rCt s).2.1.length ≤ s.1.length := rep_le rN rN_le 10 s
theorem rEv_le (s : RS) : (rEv s).2.1.length ≤ s.1.length := rep_le rN rN_le 4 s
end Go.Proofs.Ytnidcmhfbkdioaa
