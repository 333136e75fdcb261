/-
  Entities and worlds as data in memory. Conditions: none.
-/
import Derived.Test.YtnidcmhfbkdioaaWf
import Derived.Test.YtnidcmhfbkdioaaMv
namespace Go.Proofs.Ytnidcmhfbkdioaa
open Go.RowKit
set_option maxRecDepth 100000

/-! ### A slice that reads as cells, its block under a condition -/
def RdP (w : World) (P : Nat → Prop) (size : Nat) (A : Option Addr) (n : Nat) (xs : List Value) : Prop :=
  xs.length = n * size ∧ (0 < n → ∃ b o, A = some ⟨b, o, none⟩ ∧ b < w.heap.size ∧ P b ∧ ∀ j u, xs[j]? = some u → w.cell? ⟨b, o + j, none⟩ = some u)
section
variable {w w' : World} {P Q : Nat → Prop} {size n : Nat} {A : Option Addr} {xs : List Value}
theorem RdP.rd (h : RdP w P size A n xs) : Rd w w.heap.size size A n xs := ⟨h.1, fun hn => by
  obtain ⟨b, o, h1, h2, _, h4⟩ := h.2 hn
  exact ⟨b, o, h1, h2, h4⟩⟩
theorem RdP.mono (h : RdP w P size A n xs) (hq : ∀ b, b < w.heap.size → P b → Q b) : RdP w Q size A n xs := ⟨h.1, fun hn => by
  obtain ⟨b, o, h1, h2, h3, h4⟩ := h.2 hn
  exact ⟨b, o, h1, h2, hq b h2 h3, h4⟩⟩
theorem RdP.keep (h : RdP w P size A n xs) (hs : w.heap.size ≤ w'.heap.size) (hk : ∀ b, b < w.heap.size → P b → w'.heap[b]? = w.heap[b]?) : RdP w' P size A n xs := ⟨h.1, fun hn => by
  obtain ⟨b, o, h1, h2, h3, h4⟩ := h.2 hn
  exact ⟨b, o, h1, by omega, h3, fun j u hu => (World.cell?_of_block (w := w) (hk b h2 h3)).trans (h4 j u hu)⟩⟩
theorem RdP.fq {F : List Nat} (h : RdP w P size A n xs) (hq : Fq F w w') (hP : ∀ b, P b → b ∉ F) : RdP w' P size A n xs :=
  h.keep hq.size fun b h1 h2 => hq.low b h1 (hP b h2)
theorem RdP.below (h : RdP w P size A n xs) (hb : Below w.heap.size w w') : RdP w' P size A n xs := h.keep hb.size fun b h1 _ => hb.block b h1
theorem RdP.nil_ (A : Option Addr) : RdP w P size A 0 [] := ⟨by simp, fun h => absurd h (by omega)⟩
theorem RdP.of_own {base : Nat} {e : TypeId} {c : Nat} (h : w.ownsRow base e size (.slice A n c) n xs) : RdP w (base ≤ ·) size A n xs := by
  refine ⟨h.1, fun hn => ?_⟩
  obtain ⟨b, o, h1, h2, h4⟩ := (Rd.of_own h).2 hn
  refine ⟨b, o, h1, h2, ?_, h4⟩
  have := h.lt b (by
    rcases h.2 with ⟨hv, _⟩ | ⟨g, cap, cur, hv, _⟩
    · omega
    · injection hv with hA
      subst hA
      injection h1 with h1
      injection h1 with h1
      subst h1; rfl)
  exact this.1
theorem RdP.of_rd {B : Nat} (h : Rd w B size A n xs) (hB : B ≤ w.heap.size) : RdP w (· < B) size A n xs := ⟨h.1, fun hn => by
  obtain ⟨b, o, h1, h2, h4⟩ := h.2 hn
  exact ⟨b, o, h1, by omega, h2, h4⟩⟩
end
structure KdP (w : World) (P : Nat → Prop) (k : Kd) : Prop where
  rd : RdP w P 3 k.A k.n (fdCs k.fds)
  len : k.n = k.fds.length
  cap : k.n ≤ k.c
  cap2 : k.c ≤ 9223372036854775807
structure KsP (w : World) (P : Nat → Prop) (A : Option Addr) (n c : Nat) (ks : List Kd) : Prop where
  rd : RdP w P 2 A n (kdCs ks)
  len : n = ks.length
  cap : n ≤ c
  cap2 : c ≤ 9223372036854775807
  ok : ∀ k ∈ ks, KdP w P k
structure CmP (w : World) (P : Nat → Prop) (x : Cm) : Prop where
  rd : RdP w P 1 x.A x.n (x.vals.map (Value.int .i64))
  len : x.n = x.vals.length
  cap : x.n ≤ x.c
  cap2 : x.c ≤ 9223372036854775807
  wf : (Lit.int .i64 x.k).wf = true
structure CsP (w : World) (P : Nat → Prop) (A : Option Addr) (n c : Nat) (l : List Cm) : Prop where
  rd : RdP w P 2 A n (cmCs l)
  len : n = l.length
  cap : n ≤ c
  cap2 : c ≤ 9223372036854775807
  ok : ∀ x ∈ l, CmP w P x
structure It where
  e : Int
  g : Int
  A : Option Addr
  n : Nat
  c : Nat
  cms : List Cm
def It.cs (x : It) : List Value := [.int .i64 x.e, .int .i64 x.g, .slice x.A x.n x.c]
def itCs (l : List It) : List Value := l.flatMap It.cs
def It.p (x : It) : Iv := ((x.e, x.g), x.cms.map Cm.p)
structure ItOk (w : World) (B : Nat) (x : It) : Prop where
  cs : CsOk w B x.A x.n x.c x.cms
  wf1 : (Lit.int .i64 x.e).wf = true
  wf2 : (Lit.int .i64 x.g).wf = true
structure ItP (w : World) (P : Nat → Prop) (x : It) : Prop where
  cs : CsP w P x.A x.n x.c x.cms
  wf1 : (Lit.int .i64 x.e).wf = true
  wf2 : (Lit.int .i64 x.g).wf = true
structure IsOk (w : World) (B : Nat) (A : Option Addr) (n c : Nat) (l : List It) : Prop where
  rd : Rd w B 3 A n (itCs l)
  len : n = l.length
  cap : n ≤ c
  cap2 : c ≤ 9223372036854775807
  ok : ∀ x ∈ l, ItOk w B x
  lo : B ≤ w.heap.size
structure IsP (w : World) (P : Nat → Prop) (A : Option Addr) (n c : Nat) (l : List It) : Prop where
  rd : RdP w P 3 A n (itCs l)
  len : n = l.length
  cap : n ≤ c
  cap2 : c ≤ 9223372036854775807
  ok : ∀ x ∈ l, ItP w P x
structure GsOk (w : World) (B : Nat) (A : Option Addr) (n c : Nat) (l : List Int) : Prop where
  rd : Rd w B 1 A n (l.map (Value.int .i64))
  len : n = l.length
  cap : n ≤ c
  cap2 : c ≤ 9223372036854775807
  wf : ∀ g ∈ l, (Lit.int .i64 g).wf = true
  lo : B ≤ w.heap.size
structure GsP (w : World) (P : Nat → Prop) (A : Option Addr) (n c : Nat) (l : List Int) : Prop where
  rd : RdP w P 1 A n (l.map (Value.int .i64))
  len : n = l.length
  cap : n ≤ c
  cap2 : c ≤ 9223372036854775807
  wf : ∀ g ∈ l, (Lit.int .i64 g).wf = true
/-- A world: three slices and what they hold. -/
structure Wd where
  kA : Option Addr
  kn : Nat
  kc : Nat
  ks : List Kd
  gA : Option Addr
  gn : Nat
  gc : Nat
  gens : List Int
  iA : Option Addr
  im : Nat
  ic : Nat
  its : List It
abbrev Kp2 := ByteArray × List Fd
def Wd.p (w : Wd) : Wv Kp2 := ⟨w.ks.map Kd.p, w.gens, w.its.map It.p⟩
def Wd.v (x : Wd) : Value := .agg #[.slice x.kA x.kn x.kc, .slice x.gA x.gn x.gc, .slice x.iA x.im x.ic]
structure WdOk (w : World) (B : Nat) (x : Wd) : Prop where
  ks : KsOk w B x.kA x.kn x.kc x.ks
  gs : GsOk w B x.gA x.gn x.gc x.gens
  its : IsOk w B x.iA x.im x.ic x.its
structure WdP (w : World) (P : Nat → Prop) (x : Wd) : Prop where
  ks : KsP w P x.kA x.kn x.kc x.ks
  gs : GsP w P x.gA x.gn x.gc x.gens
  its : IsP w P x.iA x.im x.ic x.its

section
variable {w w' : World} {P Q : Nat → Prop} {n c B B' : Nat} {A : Option Addr}
theorem ItOk.below {x : It} (h : ItOk w B x) (hb : Below B w w') : ItOk w' B x := ⟨h.cs.below hb, h.wf1, h.wf2⟩
theorem IsOk.below {l : List It} (h : IsOk w B A n c l) (hb : Below B w w') : IsOk w' B A n c l :=
  ⟨h.rd.below hb, h.len, h.cap, h.cap2, fun x hx => (h.ok x hx).below hb, Nat.le_trans h.lo hb.size⟩
theorem GsOk.below {l : List Int} (h : GsOk w B A n c l) (hb : Below B w w') : GsOk w' B A n c l := ⟨h.rd.below hb, h.len, h.cap, h.cap2, h.wf, Nat.le_trans h.lo hb.size⟩
theorem WdOk.below {x : Wd} (h : WdOk w B x) (hb : Below B w w') : WdOk w' B x := ⟨h.ks.below hb, h.gs.below hb, h.its.below hb⟩
theorem IsOk.more {l : List It} (h : IsOk w B A n c l) (hB : B ≤ B') (hB' : B' ≤ w.heap.size) : IsOk w B' A n c l :=
  ⟨h.rd.more hB, h.len, h.cap, h.cap2, fun x hx => ⟨(h.ok x hx).cs.more hB hB', (h.ok x hx).wf1, (h.ok x hx).wf2⟩, hB'⟩
theorem GsOk.more {l : List Int} (h : GsOk w B A n c l) (hB : B ≤ B') (hB' : B' ≤ w.heap.size) : GsOk w B' A n c l := ⟨h.rd.more hB, h.len, h.cap, h.cap2, h.wf, hB'⟩
theorem WdOk.more {x : Wd} (h : WdOk w B x) (hB : B ≤ B') (hB' : B' ≤ w.heap.size) : WdOk w B' x := ⟨h.ks.more hB hB', h.gs.more hB hB', h.its.more hB hB'⟩

theorem KdP.mono {k : Kd} (h : KdP w P k) (hq : ∀ b, b < w.heap.size → P b → Q b) : KdP w Q k := ⟨h.rd.mono hq, h.len, h.cap, h.cap2⟩
theorem KdP.keep {k : Kd} (h : KdP w P k) (hs : w.heap.size ≤ w'.heap.size) (hk : ∀ b, b < w.heap.size → P b → w'.heap[b]? = w.heap[b]?) : KdP w' P k := ⟨h.rd.keep hs hk, h.len, h.cap, h.cap2⟩
theorem KsP.mono {l : List Kd} (h : KsP w P A n c l) (hq : ∀ b, b < w.heap.size → P b → Q b) : KsP w Q A n c l := ⟨h.rd.mono hq, h.len, h.cap, h.cap2, fun x hx => (h.ok x hx).mono hq⟩
theorem KsP.keep {l : List Kd} (h : KsP w P A n c l) (hs : w.heap.size ≤ w'.heap.size) (hk : ∀ b, b < w.heap.size → P b → w'.heap[b]? = w.heap[b]?) : KsP w' P A n c l := ⟨h.rd.keep hs hk, h.len, h.cap, h.cap2, fun x hx => (h.ok x hx).keep hs hk⟩
theorem CmP.mono {x : Cm} (h : CmP w P x) (hq : ∀ b, b < w.heap.size → P b → Q b) : CmP w Q x := ⟨h.rd.mono hq, h.len, h.cap, h.cap2, h.wf⟩
theorem CmP.keep {x : Cm} (h : CmP w P x) (hs : w.heap.size ≤ w'.heap.size) (hk : ∀ b, b < w.heap.size → P b → w'.heap[b]? = w.heap[b]?) : CmP w' P x := ⟨h.rd.keep hs hk, h.len, h.cap, h.cap2, h.wf⟩
theorem CsP.mono {l : List Cm} (h : CsP w P A n c l) (hq : ∀ b, b < w.heap.size → P b → Q b) : CsP w Q A n c l := ⟨h.rd.mono hq, h.len, h.cap, h.cap2, fun x hx => (h.ok x hx).mono hq⟩
theorem CsP.keep {l : List Cm} (h : CsP w P A n c l) (hs : w.heap.size ≤ w'.heap.size) (hk : ∀ b, b < w.heap.size → P b → w'.heap[b]? = w.heap[b]?) : CsP w' P A n c l := ⟨h.rd.keep hs hk, h.len, h.cap, h.cap2, fun x hx => (h.ok x hx).keep hs hk⟩
theorem ItP.mono {x : It} (h : ItP w P x) (hq : ∀ b, b < w.heap.size → P b → Q b) : ItP w Q x := ⟨h.cs.mono hq, h.wf1, h.wf2⟩
theorem ItP.keep {x : It} (h : ItP w P x) (hs : w.heap.size ≤ w'.heap.size) (hk : ∀ b, b < w.heap.size → P b → w'.heap[b]? = w.heap[b]?) : ItP w' P x := ⟨h.cs.keep hs hk, h.wf1, h.wf2⟩
theorem IsP.mono {l : List It} (h : IsP w P A n c l) (hq : ∀ b, b < w.heap.size → P b → Q b) : IsP w Q A n c l := ⟨h.rd.mono hq, h.len, h.cap, h.cap2, fun x hx => (h.ok x hx).mono hq⟩
theorem IsP.keep {l : List It} (h : IsP w P A n c l) (hs : w.heap.size ≤ w'.heap.size) (hk : ∀ b, b < w.heap.size → P b → w'.heap[b]? = w.heap[b]?) : IsP w' P A n c l := ⟨h.rd.keep hs hk, h.len, h.cap, h.cap2, fun x hx => (h.ok x hx).keep hs hk⟩
theorem GsP.mono {l : List Int} (h : GsP w P A n c l) (hq : ∀ b, b < w.heap.size → P b → Q b) : GsP w Q A n c l := ⟨h.rd.mono hq, h.len, h.cap, h.cap2, h.wf⟩
theorem GsP.keep {l : List Int} (h : GsP w P A n c l) (hs : w.heap.size ≤ w'.heap.size) (hk : ∀ b, b < w.heap.size → P b → w'.heap[b]? = w.heap[b]?) : GsP w' P A n c l := ⟨h.rd.keep hs hk, h.len, h.cap, h.cap2, h.wf⟩
theorem WdP.mono {x : Wd} (h : WdP w P x) (hq : ∀ b, b < w.heap.size → P b → Q b) : WdP w Q x := ⟨h.ks.mono hq, h.gs.mono hq, h.its.mono hq⟩
theorem WdP.keep {x : Wd} (h : WdP w P x) (hs : w.heap.size ≤ w'.heap.size) (hk : ∀ b, b < w.heap.size → P b → w'.heap[b]? = w.heap[b]?) : WdP w' P x := ⟨h.ks.keep hs hk, h.gs.keep hs hk, h.its.keep hs hk⟩

theorem KsP.ok_ {l : List Kd} (h : KsP w P A n c l) : KsOk w w.heap.size A n c l := ⟨h.rd.rd, h.len, h.cap, h.cap2, fun x hx => ⟨(h.ok x hx).rd.rd, (h.ok x hx).len, (h.ok x hx).cap, (h.ok x hx).cap2⟩, Nat.le_refl _⟩
theorem CsP.ok_ {l : List Cm} (h : CsP w P A n c l) : CsOk w w.heap.size A n c l := ⟨h.rd.rd, h.len, h.cap, h.cap2, fun x hx => ⟨(h.ok x hx).rd.rd, (h.ok x hx).len, (h.ok x hx).cap, (h.ok x hx).cap2, (h.ok x hx).wf⟩, Nat.le_refl _⟩
theorem IsP.ok_ {l : List It} (h : IsP w P A n c l) : IsOk w w.heap.size A n c l := ⟨h.rd.rd, h.len, h.cap, h.cap2, fun x hx => ⟨(h.ok x hx).cs.ok_, (h.ok x hx).wf1, (h.ok x hx).wf2⟩, Nat.le_refl _⟩
theorem GsP.ok_ {l : List Int} (h : GsP w P A n c l) : GsOk w w.heap.size A n c l := ⟨h.rd.rd, h.len, h.cap, h.cap2, h.wf, Nat.le_refl _⟩
theorem WdP.ok_ {x : Wd} (h : WdP w P x) : WdOk w w.heap.size x := ⟨h.ks.ok_, h.gs.ok_, h.its.ok_⟩
end
/-! ### The cells of an entity -/
theorem itCs_get (l : List It) (k j : Nat) (f : It) (h : l[k]? = some f) (hj : j < 3) : (itCs l)[k * 3 + j]? = (It.cs f)[j]? := by
  induction l generalizing k with
  | nil => simp at h
  | cons a l ih =>
    have e : itCs (a :: l) = It.cs a ++ itCs l := by simp [itCs]
    rw [e]
    cases k with
    | zero =>
      have ea : a = f := by simpa using h
      subst ea
      rw [List.getElem?_append_left (by simp [It.cs]; omega)]
      congr 1; omega
    | succ k =>
      rw [List.getElem?_append_right (by simp [It.cs]; omega)]
      rw [show (k + 1) * 3 + j - (It.cs a).length = k * 3 + j by simp [It.cs]; omega]
      exact ih k (by simpa using h)
theorem Rd.it {w : World} {B n : Nat} {A : Option Addr} {l : List It} {k : Nat} {f : It} (h : Rd w B 3 A n (itCs l)) (hk : k < n) (hf : l[k]? = some f) :
    ∃ b o, A = some ⟨b, o, none⟩ ∧ b < B ∧ w.cell? ⟨b, o + k * 3, none⟩ = some (.int .i64 f.e) ∧ w.cell? ⟨b, o + k * 3 + 1, none⟩ = some (.int .i64 f.g) ∧ w.cell? ⟨b, o + k * 3 + 2, none⟩ = some (.slice f.A f.n f.c) := by
  obtain ⟨b, o, e, hb, hc⟩ := h.2 (by omega)
  exact ⟨b, o, e, hb, hc (k * 3) _ ((itCs_get l k 0 f hf (by omega)).trans rfl), by rw [Nat.add_assoc]; exact hc (k * 3 + 1) _ ((itCs_get l k 1 f hf (by omega)).trans rfl), by rw [Nat.add_assoc]; exact hc (k * 3 + 2) _ ((itCs_get l k 2 f hf (by omega)).trans rfl)⟩
end Go.Proofs.Ytnidcmhfbkdioaa
