/-
  Templates in memory, by the types of their blocks. Conditions: none.
-/
import Derived.Test.YtnidcmhfbkdioaaPq
import Derived.Test.YtnidcmhfbkdioaaMg
namespace Go.Proofs.Ytnidcmhfbkdioaa
open Go.RowKit
set_option maxRecDepth 100000

structure OvY (w : World) (B : Nat) (x : Ov) : Prop where
  rd : RdY w B 3 1 x.pA x.pn (x.path.map (Value.int .i64))
  len : x.pn = x.path.length
  cap : x.pn ≤ x.pc
  cap2 : x.pc ≤ 9223372036854775807
  wK : (Lit.int .i64 x.K).wf = true
  wF : (Lit.int .i64 x.F).wf = true
  wV : (Lit.int .i64 x.V).wf = true
theorem OvY.keep {w w' : World} {B : Nat} {F : List TypeId} {x : Ov} (h : OvY w B x) (hq : Kx B F w w') (h3 : (3 : TypeId) ∉ F) : OvY w' B x := ⟨h.rd.keep hq h3, h.len, h.cap, h.cap2, h.wK, h.wF, h.wV⟩
theorem OvY.ok_ {w : World} {B : Nat} {x : Ov} (h : OvY w B x) : OvOk w w.heap.size x := ⟨h.rd.rd, h.len, h.cap, h.cap2, h.wK, h.wF, h.wV⟩
theorem OvY.of_ok {w : World} {B B0 : Nat} {x : Ov} (h : OvOk w B0 x) (hB : B0 ≤ B) (hw : B0 ≤ w.heap.size) : OvY w B x := ⟨.of_rd h.rd hB hw, h.len, h.cap, h.cap2, h.wK, h.wF, h.wV⟩
structure OvsY (w : World) (B : Nat) (A : Option Addr) (n c : Nat) (l : List Ov) : Prop where
  rd : RdY w B 158 4 A n (ovCs l)
  len : n = l.length
  cap : n ≤ c
  cap2 : c ≤ 9223372036854775807
  ok : ∀ x ∈ l, OvY w B x
theorem OvsY.keep {w w' : World} {B n c : Nat} {A : Option Addr} {F : List TypeId} {l : List Ov} (h : OvsY w B A n c l) (hq : Kx B F w w') (h3 : (3 : TypeId) ∉ F) (h158 : (158 : TypeId) ∉ F) : OvsY w' B A n c l := ⟨h.rd.keep hq h158, h.len, h.cap, h.cap2, fun x hx => (h.ok x hx).keep hq h3⟩
theorem OvsY.ok_ {w : World} {B n c : Nat} {A : Option Addr} {l : List Ov} (h : OvsY w B A n c l) : OvsOk w w.heap.size A n c l := ⟨h.rd.rd, h.len, h.cap, h.cap2, fun x hx => (h.ok x hx).ok_, Nat.le_refl _⟩
theorem OvsY.of_ok {w : World} {B B0 n c : Nat} {A : Option Addr} {l : List Ov} (h : OvsOk w B0 A n c l) (hB : B0 ≤ B) : OvsY w B A n c l := ⟨.of_rd h.rd hB h.lo, h.len, h.cap, h.cap2, fun x hx => .of_ok (h.ok x hx) hB h.lo⟩
structure PtY (w : World) (B : Nat) (x : Pt) : Prop where
  ov : OvsY w B x.oA x.on x.oc x.ovs
  wf : (Lit.int .i64 x.of_).wf = true
theorem PtY.keep {w w' : World} {B : Nat} {F : List TypeId} {x : Pt} (h : PtY w B x) (hq : Kx B F w w') (h3 : (3 : TypeId) ∉ F) (h158 : (158 : TypeId) ∉ F) : PtY w' B x := ⟨h.ov.keep hq h3 h158, h.wf⟩
theorem PtY.ok_ {w : World} {B : Nat} {x : Pt} (h : PtY w B x) : PtOk w w.heap.size x := ⟨h.ov.ok_, h.wf⟩
theorem PtY.of_ok {w : World} {B B0 : Nat} {x : Pt} (h : PtOk w B0 x) (hB : B0 ≤ B) (_ : B0 ≤ w.heap.size) : PtY w B x := ⟨.of_ok h.ov hB, h.wf⟩
structure PtsY (w : World) (B : Nat) (A : Option Addr) (n c : Nat) (l : List Pt) : Prop where
  rd : RdY w B 46 2 A n (ptCs l)
  len : n = l.length
  cap : n ≤ c
  cap2 : c ≤ 9223372036854775807
  ok : ∀ x ∈ l, PtY w B x
theorem PtsY.keep {w w' : World} {B n c : Nat} {A : Option Addr} {F : List TypeId} {l : List Pt} (h : PtsY w B A n c l) (hq : Kx B F w w') (h3 : (3 : TypeId) ∉ F) (h158 : (158 : TypeId) ∉ F) (h46 : (46 : TypeId) ∉ F) : PtsY w' B A n c l := ⟨h.rd.keep hq h46, h.len, h.cap, h.cap2, fun x hx => (h.ok x hx).keep hq h3 h158⟩
theorem PtsY.ok_ {w : World} {B n c : Nat} {A : Option Addr} {l : List Pt} (h : PtsY w B A n c l) : PtsOk w w.heap.size A n c l := ⟨h.rd.rd, h.len, h.cap, h.cap2, fun x hx => (h.ok x hx).ok_, Nat.le_refl _⟩
theorem PtsY.of_ok {w : World} {B B0 n c : Nat} {A : Option Addr} {l : List Pt} (h : PtsOk w B0 A n c l) (hB : B0 ≤ B) : PtsY w B A n c l := ⟨.of_rd h.rd hB h.lo, h.len, h.cap, h.cap2, fun x hx => .of_ok (h.ok x hx) hB h.lo⟩
structure PfY (w : World) (B : Nat) (x : Pf) : Prop where
  cs : CsY w B x.cA x.cn x.cc x.cms
  ts : PtsY w B x.tA x.tn x.tc x.pts
theorem PfY.keep {w w' : World} {B : Nat} {F : List TypeId} {x : Pf} (h : PfY w B x) (hq : Kx B F w w') (h3 : (3 : TypeId) ∉ F) (h158 : (158 : TypeId) ∉ F) (h46 : (46 : TypeId) ∉ F) (h166 : (166 : TypeId) ∉ F) : PfY w' B x := ⟨h.cs.keep hq h3 h166, h.ts.keep hq h3 h158 h46⟩
theorem PfY.ok_ {w : World} {B : Nat} {x : Pf} (h : PfY w B x) : PfOk w w.heap.size x := ⟨h.cs.ok_, h.ts.ok_⟩
theorem PfY.of_ok {w : World} {B B0 : Nat} {x : Pf} (h : PfOk w B0 x) (hB : B0 ≤ B) (_ : B0 ≤ w.heap.size) : PfY w B x := ⟨.of_ok h.cs hB, .of_ok h.ts hB⟩
structure PfsY (w : World) (B : Nat) (A : Option Addr) (n c : Nat) (l : List Pf) : Prop where
  rd : RdY w B 43 2 A n (pfCs l)
  len : n = l.length
  cap : n ≤ c
  cap2 : c ≤ 9223372036854775807
  ok : ∀ x ∈ l, PfY w B x
theorem PfsY.keep {w w' : World} {B n c : Nat} {A : Option Addr} {F : List TypeId} {l : List Pf} (h : PfsY w B A n c l) (hq : Kx B F w w') (h3 : (3 : TypeId) ∉ F) (h158 : (158 : TypeId) ∉ F) (h46 : (46 : TypeId) ∉ F) (h166 : (166 : TypeId) ∉ F) (h43 : (43 : TypeId) ∉ F) : PfsY w' B A n c l := ⟨h.rd.keep hq h43, h.len, h.cap, h.cap2, fun x hx => (h.ok x hx).keep hq h3 h158 h46 h166⟩
theorem PfsY.ok_ {w : World} {B n c : Nat} {A : Option Addr} {l : List Pf} (h : PfsY w B A n c l) : PfsOk w w.heap.size A n c l := ⟨h.rd.rd, h.len, h.cap, h.cap2, fun x hx => (h.ok x hx).ok_, Nat.le_refl _⟩
theorem PfsY.of_ok {w : World} {B B0 n c : Nat} {A : Option Addr} {l : List Pf} (h : PfsOk w B0 A n c l) (hB : B0 ≤ B) : PfsY w B A n c l := ⟨.of_rd h.rd hB h.lo, h.len, h.cap, h.cap2, fun x hx => .of_ok (h.ok x hx) hB h.lo⟩
end Go.Proofs.Ytnidcmhfbkdioaa
