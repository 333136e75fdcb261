/-
  Lemmas for the walk, merged (Ma Ba Mb Me Mg Mj Bb Re Ha). No condition but those in each statement.
-/
import Derived.Lib.Mul64
import Derived.Laws.Bits64b
import Derived.StillTailTactics
import Derived.BigQuiet
import Derived.DeepKeys
import Derived.OrdersHeld
import Derived.Test.YtnidcmhfbkdioaaSk4
import Derived.Test.YtnidcmhfbkdioaaSk5
import Derived.Test.YtnidcmhfbkdioaaSk3
namespace Go.Proofs.Ytnidcmhfbkdioaa
/-! ### Ma -/
open Go.RowKit
set_option maxRecDepth 100000
/-! ### A slice that reads as cells, its block under a condition -/
def RdP (w : World) (P : Nat → Prop) (size : Nat) (A : Option Addr) (n : Nat) (xs : List Value) : Prop :=
  xs.length = n * size ∧ (0 < n → ∃ b o, A = some ⟨b, o, none⟩ ∧ b < w.heap.size ∧ P b ∧ ∀ j u, xs[j]? = some u → w.cell? ⟨b, o + j, none⟩ = some u)
section
variable {w w' : World} {P Q : Nat → Prop} {size n : Nat} {A : Option Addr} {xs : List Value}
theorem RdP.rd (h : RdP w P size A n xs) : Rd w w.heap.size size A n xs := ⟨h.1, fun hn => by
  obtain ⟨b, o, h1, h2, _, h4⟩ := h.2 hn
  exact ⟨b, o, h1, h2, h4⟩⟩
theorem RdP.mono (h : RdP w P size A n xs) (hq : ∀ b, b < w.heap.size → P b → Q b) : RdP w Q size A n xs := ⟨h.1, fun hn => by
  obtain ⟨b, o, h1, h2, h3, h4⟩ := h.2 hn
  exact ⟨b, o, h1, h2, hq b h2 h3, h4⟩⟩
theorem RdP.keep (h : RdP w P size A n xs) (hs : w.heap.size ≤ w'.heap.size) (hk : ∀ b, b < w.heap.size → P b → w'.heap[b]? = w.heap[b]?) : RdP w' P size A n xs := ⟨h.1, fun hn => by
  obtain ⟨b, o, h1, h2, h3, h4⟩ := h.2 hn
  exact ⟨b, o, h1, by omega, h3, fun j u hu => (World.cell?_of_block (w := w) (hk b h2 h3)).trans (h4 j u hu)⟩⟩
theorem RdP.fq {F : List Nat} (h : RdP w P size A n xs) (hq : Fq F w w') (hP : ∀ b, P b → b ∉ F) : RdP w' P size A n xs :=
  h.keep hq.size fun b h1 h2 => hq.low b h1 (hP b h2)
theorem RdP.below (h : RdP w P size A n xs) (hb : Below w.heap.size w w') : RdP w' P size A n xs := h.keep hb.size fun b h1 _ => hb.block b h1
theorem RdP.nil_ (A : Option Addr) : RdP w P size A 0 [] := ⟨by simp, fun h => absurd h (by omega)⟩
theorem RdP.of_own {base : Nat} {e : TypeId} {c : Nat} (h : w.ownsRow base e size (.slice A n c) n xs) : RdP w (base ≤ ·) size A n xs := by
  refine ⟨h.1, fun hn => ?_⟩
  obtain ⟨b, o, h1, h2, h4⟩ := (Rd.of_own h).2 hn
  refine ⟨b, o, h1, h2, ?_, h4⟩
  have := h.lt b (by
    rcases h.2 with ⟨hv, _⟩ | ⟨g, cap, cur, hv, _⟩
    · omega
    · injection hv with hA
      subst hA
      injection h1 with h1
      injection h1 with h1
      subst h1; rfl)
  exact this.1
end
structure KdP (w : World) (P : Nat → Prop) (k : Kd) : Prop where
  rd : RdP w P 3 k.A k.n (fdCs k.fds)
  len : k.n = k.fds.length
  cap : k.n ≤ k.c
  cap2 : k.c ≤ 9223372036854775807
structure KsP (w : World) (P : Nat → Prop) (A : Option Addr) (n c : Nat) (ks : List Kd) : Prop where
  rd : RdP w P 2 A n (kdCs ks)
  len : n = ks.length
  cap : n ≤ c
  cap2 : c ≤ 9223372036854775807
  ok : ∀ k ∈ ks, KdP w P k
structure CmP (w : World) (P : Nat → Prop) (x : Cm) : Prop where
  rd : RdP w P 1 x.A x.n (x.vals.map (Value.int .i64))
  len : x.n = x.vals.length
  cap : x.n ≤ x.c
  cap2 : x.c ≤ 9223372036854775807
  wf : (Lit.int .i64 x.k).wf = true
structure CsP (w : World) (P : Nat → Prop) (A : Option Addr) (n c : Nat) (l : List Cm) : Prop where
  rd : RdP w P 2 A n (cmCs l)
  len : n = l.length
  cap : n ≤ c
  cap2 : c ≤ 9223372036854775807
  ok : ∀ x ∈ l, CmP w P x
structure It where
  e : Int
  g : Int
  A : Option Addr
  n : Nat
  c : Nat
  cms : List Cm
def It.cs (x : It) : List Value := [.int .i64 x.e, .int .i64 x.g, .slice x.A x.n x.c]
def itCs (l : List It) : List Value := l.flatMap It.cs
def It.p (x : It) : Iv := ((x.e, x.g), x.cms.map Cm.p)
structure ItOk (w : World) (B : Nat) (x : It) : Prop where
  cs : CsOk w B x.A x.n x.c x.cms
  wf1 : (Lit.int .i64 x.e).wf = true
  wf2 : (Lit.int .i64 x.g).wf = true
structure ItP (w : World) (P : Nat → Prop) (x : It) : Prop where
  cs : CsP w P x.A x.n x.c x.cms
  wf1 : (Lit.int .i64 x.e).wf = true
  wf2 : (Lit.int .i64 x.g).wf = true
structure IsOk (w : World) (B : Nat) (A : Option Addr) (n c : Nat) (l : List It) : Prop where
  rd : Rd w B 3 A n (itCs l)
  len : n = l.length
  cap : n ≤ c
  cap2 : c ≤ 9223372036854775807
  ok : ∀ x ∈ l, ItOk w B x
  lo : B ≤ w.heap.size
structure IsP (w : World) (P : Nat → Prop) (A : Option Addr) (n c : Nat) (l : List It) : Prop where
  rd : RdP w P 3 A n (itCs l)
  len : n = l.length
  cap : n ≤ c
  cap2 : c ≤ 9223372036854775807
  ok : ∀ x ∈ l, ItP w P x
structure GsOk (w : World) (B : Nat) (A : Option Addr) (n c : Nat) (l : List Int) : Prop where
  rd : Rd w B 1 A n (l.map (Value.int .i64))
  len : n = l.length
  cap : n ≤ c
  cap2 : c ≤ 9223372036854775807
  wf : ∀ g ∈ l, (Lit.int .i64 g).wf = true
  lo : B ≤ w.heap.size
structure GsP (w : World) (P : Nat → Prop) (A : Option Addr) (n c : Nat) (l : List Int) : Prop where
  rd : RdP w P 1 A n (l.map (Value.int .i64))
  len : n = l.length
  cap : n ≤ c
  cap2 : c ≤ 9223372036854775807
  wf : ∀ g ∈ l, (Lit.int .i64 g).wf = true
/-- A world: three slices and what they hold. -/
structure Wd where
  kA : Option Addr
  kn : Nat
  kc : Nat
  ks : List Kd
  gA : Option Addr
  gn : Nat
  gc : Nat
  gens : List Int
  iA : Option Addr
  im : Nat
  ic : Nat
  its : List It
abbrev Kp2 := ByteArray × List Fd
def Wd.p (w : Wd) : Wv Kp2 := ⟨w.ks.map Kd.p, w.gens, w.its.map It.p⟩
def Wd.v (x : Wd) : Value := .agg #[.slice x.kA x.kn x.kc, .slice x.gA x.gn x.gc, .slice x.iA x.im x.ic]
structure WdOk (w : World) (B : Nat) (x : Wd) : Prop where
  ks : KsOk w B x.kA x.kn x.kc x.ks
  gs : GsOk w B x.gA x.gn x.gc x.gens
  its : IsOk w B x.iA x.im x.ic x.its
structure WdP (w : World) (P : Nat → Prop) (x : Wd) : Prop where
  ks : KsP w P x.kA x.kn x.kc x.ks
  gs : GsP w P x.gA x.gn x.gc x.gens
  its : IsP w P x.iA x.im x.ic x.its
section
variable {w w' : World} {P Q : Nat → Prop} {n c B B' : Nat} {A : Option Addr}
theorem ItOk.below {x : It} (h : ItOk w B x) (hb : Below B w w') : ItOk w' B x := ⟨h.cs.below hb, h.wf1, h.wf2⟩
theorem IsOk.below {l : List It} (h : IsOk w B A n c l) (hb : Below B w w') : IsOk w' B A n c l :=
  ⟨h.rd.below hb, h.len, h.cap, h.cap2, fun x hx => (h.ok x hx).below hb, Nat.le_trans h.lo hb.size⟩
theorem GsOk.below {l : List Int} (h : GsOk w B A n c l) (hb : Below B w w') : GsOk w' B A n c l := ⟨h.rd.below hb, h.len, h.cap, h.cap2, h.wf, Nat.le_trans h.lo hb.size⟩
theorem WdOk.below {x : Wd} (h : WdOk w B x) (hb : Below B w w') : WdOk w' B x := ⟨h.ks.below hb, h.gs.below hb, h.its.below hb⟩
theorem IsOk.more {l : List It} (h : IsOk w B A n c l) (hB : B ≤ B') (hB' : B' ≤ w.heap.size) : IsOk w B' A n c l :=
  ⟨h.rd.more hB, h.len, h.cap, h.cap2, fun x hx => ⟨(h.ok x hx).cs.more hB hB', (h.ok x hx).wf1, (h.ok x hx).wf2⟩, hB'⟩
theorem GsOk.more {l : List Int} (h : GsOk w B A n c l) (hB : B ≤ B') (hB' : B' ≤ w.heap.size) : GsOk w B' A n c l := ⟨h.rd.more hB, h.len, h.cap, h.cap2, h.wf, hB'⟩
theorem WdOk.more {x : Wd} (h : WdOk w B x) (hB : B ≤ B') (hB' : B' ≤ w.heap.size) : WdOk w B' x := ⟨h.ks.more hB hB', h.gs.more hB hB', h.its.more hB hB'⟩
theorem KdP.mono {k : Kd} (h : KdP w P k) (hq : ∀ b, b < w.heap.size → P b → Q b) : KdP w Q k := ⟨h.rd.mono hq, h.len, h.cap, h.cap2⟩
theorem KdP.keep {k : Kd} (h : KdP w P k) (hs : w.heap.size ≤ w'.heap.size) (hk : ∀ b, b < w.heap.size → P b → w'.heap[b]? = w.heap[b]?) : KdP w' P k := ⟨h.rd.keep hs hk, h.len, h.cap, h.cap2⟩
theorem KsP.mono {l : List Kd} (h : KsP w P A n c l) (hq : ∀ b, b < w.heap.size → P b → Q b) : KsP w Q A n c l := ⟨h.rd.mono hq, h.len, h.cap, h.cap2, fun x hx => (h.ok x hx).mono hq⟩
theorem KsP.keep {l : List Kd} (h : KsP w P A n c l) (hs : w.heap.size ≤ w'.heap.size) (hk : ∀ b, b < w.heap.size → P b → w'.heap[b]? = w.heap[b]?) : KsP w' P A n c l := ⟨h.rd.keep hs hk, h.len, h.cap, h.cap2, fun x hx => (h.ok x hx).keep hs hk⟩
theorem CmP.mono {x : Cm} (h : CmP w P x) (hq : ∀ b, b < w.heap.size → P b → Q b) : CmP w Q x := ⟨h.rd.mono hq, h.len, h.cap, h.cap2, h.wf⟩
theorem CmP.keep {x : Cm} (h : CmP w P x) (hs : w.heap.size ≤ w'.heap.size) (hk : ∀ b, b < w.heap.size → P b → w'.heap[b]? = w.heap[b]?) : CmP w' P x := ⟨h.rd.keep hs hk, h.len, h.cap, h.cap2, h.wf⟩
theorem CsP.mono {l : List Cm} (h : CsP w P A n c l) (hq : ∀ b, b < w.heap.size → P b → Q b) : CsP w Q A n c l := ⟨h.rd.mono hq, h.len, h.cap, h.cap2, fun x hx => (h.ok x hx).mono hq⟩
theorem CsP.keep {l : List Cm} (h : CsP w P A n c l) (hs : w.heap.size ≤ w'.heap.size) (hk : ∀ b, b < w.heap.size → P b → w'.heap[b]? = w.heap[b]?) : CsP w' P A n c l := ⟨h.rd.keep hs hk, h.len, h.cap, h.cap2, fun x hx => (h.ok x hx).keep hs hk⟩
theorem ItP.mono {x : It} (h : ItP w P x) (hq : ∀ b, b < w.heap.size → P b → Q b) : ItP w Q x := ⟨h.cs.mono hq, h.wf1, h.wf2⟩
theorem ItP.keep {x : It} (h : ItP w P x) (hs : w.heap.size ≤ w'.heap.size) (hk : ∀ b, b < w.heap.size → P b → w'.heap[b]? = w.heap[b]?) : ItP w' P x := ⟨h.cs.keep hs hk, h.wf1, h.wf2⟩
theorem IsP.mono {l : List It} (h : IsP w P A n c l) (hq : ∀ b, b < w.heap.size → P b → Q b) : IsP w Q A n c l := ⟨h.rd.mono hq, h.len, h.cap, h.cap2, fun x hx => (h.ok x hx).mono hq⟩
theorem IsP.keep {l : List It} (h : IsP w P A n c l) (hs : w.heap.size ≤ w'.heap.size) (hk : ∀ b, b < w.heap.size → P b → w'.heap[b]? = w.heap[b]?) : IsP w' P A n c l := ⟨h.rd.keep hs hk, h.len, h.cap, h.cap2, fun x hx => (h.ok x hx).keep hs hk⟩
theorem GsP.mono {l : List Int} (h : GsP w P A n c l) (hq : ∀ b, b < w.heap.size → P b → Q b) : GsP w Q A n c l := ⟨h.rd.mono hq, h.len, h.cap, h.cap2, h.wf⟩
theorem GsP.keep {l : List Int} (h : GsP w P A n c l) (hs : w.heap.size ≤ w'.heap.size) (hk : ∀ b, b < w.heap.size → P b → w'.heap[b]? = w.heap[b]?) : GsP w' P A n c l := ⟨h.rd.keep hs hk, h.len, h.cap, h.cap2, h.wf⟩
theorem WdP.mono {x : Wd} (h : WdP w P x) (hq : ∀ b, b < w.heap.size → P b → Q b) : WdP w Q x := ⟨h.ks.mono hq, h.gs.mono hq, h.its.mono hq⟩
theorem WdP.keep {x : Wd} (h : WdP w P x) (hs : w.heap.size ≤ w'.heap.size) (hk : ∀ b, b < w.heap.size → P b → w'.heap[b]? = w.heap[b]?) : WdP w' P x := ⟨h.ks.keep hs hk, h.gs.keep hs hk, h.its.keep hs hk⟩
theorem KsP.ok_ {l : List Kd} (h : KsP w P A n c l) : KsOk w w.heap.size A n c l := ⟨h.rd.rd, h.len, h.cap, h.cap2, fun x hx => ⟨(h.ok x hx).rd.rd, (h.ok x hx).len, (h.ok x hx).cap, (h.ok x hx).cap2⟩, Nat.le_refl _⟩
theorem CsP.ok_ {l : List Cm} (h : CsP w P A n c l) : CsOk w w.heap.size A n c l := ⟨h.rd.rd, h.len, h.cap, h.cap2, fun x hx => ⟨(h.ok x hx).rd.rd, (h.ok x hx).len, (h.ok x hx).cap, (h.ok x hx).cap2, (h.ok x hx).wf⟩, Nat.le_refl _⟩
theorem IsP.ok_ {l : List It} (h : IsP w P A n c l) : IsOk w w.heap.size A n c l := ⟨h.rd.rd, h.len, h.cap, h.cap2, fun x hx => ⟨(h.ok x hx).cs.ok_, (h.ok x hx).wf1, (h.ok x hx).wf2⟩, Nat.le_refl _⟩
theorem GsP.ok_ {l : List Int} (h : GsP w P A n c l) : GsOk w w.heap.size A n c l := ⟨h.rd.rd, h.len, h.cap, h.cap2, h.wf, Nat.le_refl _⟩
theorem WdP.ok_ {x : Wd} (h : WdP w P x) : WdOk w w.heap.size x := ⟨h.ks.ok_, h.gs.ok_, h.its.ok_⟩
end
/-! ### The cells of an entity -/
theorem itCs_get (l : List It) (k j : Nat) (f : It) (h : l[k]? = some f) (hj : j < 3) : (itCs l)[k * 3 + j]? = (It.cs f)[j]? := by
  induction l generalizing k with
  | nil => simp at h
  | cons a l ih =>
    have e : itCs (a :: l) = It.cs a ++ itCs l := by simp [itCs]
    rw [e]
    cases k with
    | zero =>
      have ea : a = f := by simpa using h
      subst ea
      rw [List.getElem?_append_left (by simp [It.cs]; omega)]
      congr 1; omega
    | succ k =>
      rw [List.getElem?_append_right (by simp [It.cs]; omega)]
      rw [show (k + 1) * 3 + j - (It.cs a).length = k * 3 + j by simp [It.cs]; omega]
      exact ih k (by simpa using h)
theorem Rd.it {w : World} {B n : Nat} {A : Option Addr} {l : List It} {k : Nat} {f : It} (h : Rd w B 3 A n (itCs l)) (hk : k < n) (hf : l[k]? = some f) :
    ∃ b o, A = some ⟨b, o, none⟩ ∧ b < B ∧ w.cell? ⟨b, o + k * 3, none⟩ = some (.int .i64 f.e) ∧ w.cell? ⟨b, o + k * 3 + 1, none⟩ = some (.int .i64 f.g) ∧ w.cell? ⟨b, o + k * 3 + 2, none⟩ = some (.slice f.A f.n f.c) := by
  obtain ⟨b, o, e, hb, hc⟩ := h.2 (by omega)
  exact ⟨b, o, e, hb, hc (k * 3) _ ((itCs_get l k 0 f hf (by omega)).trans rfl), by rw [Nat.add_assoc]; exact hc (k * 3 + 1) _ ((itCs_get l k 1 f hf (by omega)).trans rfl), by rw [Nat.add_assoc]; exact hc (k * 3 + 2) _ ((itCs_get l k 2 f hf (by omega)).trans rfl)⟩
/-! ### Ba -/
theorem res_cell1 {fn : Func} {p : Tmp} {ty : TypeId} (h : fn.results = #[.cell p ty]) (tmps : Array Value) (P : Program) (w : World) :
    (results fn tmps).run P w = ((asAddr (tmps.getD p undef)).run P w).andThen fun a w₁ => (loadVar ty a).run P w₁ := by
  simp only [results, h]
  simp [Sem.run_bind, Result.andThen]
/-- The number of a range that is nearest. -/
def wiF (n lo hi : Int) : Int := if n < lo then lo else if hi < n then hi else n
set_option maxHeartbeats 800000 in
theorem within_any (n lo hi : Int) (h : lo ≤ hi) (w : World) : Calls Try.prog 152 #[.int .i64 n, .int .i64 lo, .int .i64 hi] w fun e w' => e = .returned (.int .i64 (wiF n lo hi)) ∧ w = w' := by
  obtain ⟨R, hR⟩ : ∃ R, R = wiF n lo hi := ⟨_, rfl⟩
  rw [← hR]
  unfold wiF at hR
  have HR := Lib.hid hR
  clear hR
  go_enter Try.func152, Try.ntmps152
  go_wp2_with fail
  all_goals
    go_ret
    refine ⟨?_, rfl⟩
    rw [HR.out]
    clear HR
    (repeat' split) <;> first | rfl | (exfalso; simp_all; omega) | (exfalso; omega)
set_option maxHeartbeats 800000 in
theorem rnear_any (n lo hi : Int) (w : World) : Calls Try.prog 155 #[.int .i64 n, .int .i64 lo, .int .i64 hi] w fun e w' => e = .returned (.int .i64 (wiF n lo hi)) ∧ w = w' := by
  obtain ⟨R, hR⟩ : ∃ R, R = wiF n lo hi := ⟨_, rfl⟩
  rw [← hR]
  unfold wiF at hR
  by_cases h1 : n < lo
  · rw [if_pos h1] at hR
    subst hR
    go_enter Try.func155, Try.ntmps155
    go_wp2_with fail
    go_ret
    exact ⟨rfl, rfl⟩
  · rw [if_neg h1] at hR
    by_cases h2 : hi < n
    · rw [if_pos h2] at hR
      subst hR
      go_enter Try.func155, Try.ntmps155
      go_wp2_with fail
      go_ret
      exact ⟨rfl, rfl⟩
    · rw [if_neg h2] at hR
      subst hR
      go_enter Try.func155, Try.ntmps155
      go_wp2_with fail
      go_ret
      exact ⟨rfl, rfl⟩
theorem wiF_in {n lo hi : Int} (h : lo ≤ hi) : lo ≤ wiF n lo hi ∧ wiF n lo hi ≤ hi := by
  unfold wiF
  split
  · omega
  · split <;> omega
set_option maxHeartbeats 800000 in
theorem clamp_any (a : Int) (h1 : -1099511627776 ≤ a) (h2 : a ≤ 1099511627776) (w : World) : Calls Try.prog 239 #[.int .i64 a] w fun e w' => e = .returned (.int .i64 a) ∧ w = w' := by
  go_enter Try.func239, Try.ntmps239
  go_wp2_with fail
  all_goals
    go_ret
    refine ⟨?_, rfl⟩
    first | rfl | (exfalso; simp_all; omega) | (exfalso; omega) | (congr 2; omega)
set_option maxHeartbeats 800000 in
theorem mag_any (a : Nat) (h : a < 9223372036854775808) (w : World) : Calls Try.prog 249 #[.int .i64 (a : Int)] w fun e w' => e = .returned (.int .u64 (a : Int)) ∧ w = w' := by
  have h0 : ¬ ((a : Int) < 0) := by omega
  have hw : IntKind.u64.wrap (a : Int) = (a : Int) := by rw [IntKind.wrap_u64]; omega
  go_enter Try.func249, Try.ntmps249
  go_wp2_with fail
  go_ret
  exact ⟨rfl, rfl⟩
theorem mq_mask (a : Nat) (ha : a < 18446744073709551616) : bits .and .u64 (a : Int) 4294967295 = ((a % 4294967296 : Nat) : Int) := by
  have h := bits_and_u64_nat a 4294967295 ha (by omega)
  have e : a &&& 4294967295 = a % 4294967296 := Nat.and_two_pow_sub_one_eq_mod a 32
  rw [e] at h
  exact h
theorem mq_div (a : Nat) : (a : Int) / 4294967296 = ((a / 4294967296 : Nat) : Int) := by omega
theorem mq_mul (a b : Nat) : (a : Int) * (b : Int) = ((a * b : Nat) : Int) := (Int.natCast_mul a b).symm
theorem mq_add (a b : Nat) : (a : Int) + (b : Int) = ((a + b : Nat) : Int) := (Int.natCast_add a b).symm
theorem mq_wrap (a : Nat) (ha : a < 18446744073709551616) : IntKind.u64.wrap (a : Int) = (a : Int) := by rw [IntKind.wrap_u64]; omega
set_option maxHeartbeats 1600000 in
theorem mul64_any (x y : Nat) (hx : x < 18446744073709551616) (hy : y < 18446744073709551616) (hxy : x * y < 18446744073709551616) (w : World) :
    Calls Try.prog 250 #[.int .u64 (x : Int), .int .u64 (y : Int)] w fun e w' => e = .returned (.tuple #[.int .u64 0, .int .u64 ((x * y : Nat) : Int)]) ∧ w = w' := by
  obtain ⟨bd, bt, bw, hhi⟩ := Lib.mul64_hi x y hx hy
  have ba := Lib.half_mul_le (a := x / 4294967296) (b := y / 4294967296) (by omega) (by omega)
  have bb := Lib.half_mul_le (a := x / 4294967296) (b := y % 4294967296) (by omega) (by omega)
  have bc := Lib.half_mul_le (a := x % 4294967296) (b := y / 4294967296) (by omega) (by omega)
  have ba' : x / 4294967296 * (y / 4294967296) < 18446744073709551616 := by omega
  have bb' : x / 4294967296 * (y % 4294967296) < 18446744073709551616 := by omega
  have bc' : x % 4294967296 * (y / 4294967296) < 18446744073709551616 := by omega
  have bh1 : x / 4294967296 * (y / 4294967296) + (x / 4294967296 * (y % 4294967296) + x % 4294967296 * (y % 4294967296) / 4294967296) / 4294967296 < 18446744073709551616 := by omega
  have bh : x / 4294967296 * (y / 4294967296) + (x / 4294967296 * (y % 4294967296) + x % 4294967296 * (y % 4294967296) / 4294967296) / 4294967296 + ((x / 4294967296 * (y % 4294967296) + x % 4294967296 * (y % 4294967296) / 4294967296) % 4294967296 + x % 4294967296 * (y / 4294967296)) / 4294967296 < 18446744073709551616 := by omega
  have hz : x * y / 18446744073709551616 = 0 := Nat.div_eq_of_lt hxy
  rw [hz] at hhi
  go_enter Try.func250, Try.ntmps250
  go_wp2_with fail
  simp only [mq_mask x hx, mq_mask y hy, mq_div, mq_mul, mq_add, mq_wrap _ bd, mq_wrap _ bb', mq_wrap _ bt, mq_mask _ bt, mq_wrap _ bc', mq_wrap _ bw, mq_wrap _ ba', mq_wrap _ bh1, mq_wrap _ bh]
  rw [hhi]
  go_ret2
  exact ⟨rfl, rfl⟩
set_option maxHeartbeats 1600000 in
theorem div64_any (x y : Nat) (hx : x < 18446744073709551616) (hy0 : 0 < y) (hy : y < 18446744073709551616) (w : World) :
    Calls Try.prog 251 #[.int .u64 0, .int .u64 (x : Int), .int .u64 (y : Int)] w fun e w' => e = .returned (.tuple #[.int .u64 ((x / y : Nat) : Int), .int .u64 ((x % y : Nat) : Int)]) ∧ ∃ m, w.drewN m = w' := by
  have h1 : ((y : Int) == 0) = false := by simp; omega
  have h2 : ¬ ((y : Int) ≤ 0) := by omega
  have h3 : (y : Int) ≠ 0 := by omega
  go_enter Try.func251, Try.ntmps251
  go_wp2_with fail
  go_quiet (fail)
  have hq : IntKind.u64.wrap ((x : Int) / (y : Int)) = ((x / y : Nat) : Int) := by
    have h := Nat.div_le_self x y
    rw [← Int.natCast_ediv]
    generalize x / y = k at *
    rw [IntKind.wrap_u64]; omega
  have hr : (x : Int) % (y : Int) = ((x % y : Nat) : Int) := (Int.natCast_emod x y).symm
  rw [hq, hr]
  go_wp2_with fail
  go_ret2
  exact ⟨rfl, _, rfl⟩
/-- The rounded number a times b through c. -/
def mdF (a b c : Nat) : Nat := if c - a * b % c ≤ a * b % c then a * b / c + 1 else a * b / c
theorem mdF_le (a b c : Nat) : mdF a b c ≤ a * b / c + 1 := by unfold mdF; split <;> omega
set_option maxHeartbeats 3200000 in
theorem mulDiv_any (a b c : Nat) (ha : a ≤ 1099511627776) (hb : b ≤ 1099511627776) (hc0 : 0 < c) (hc : c ≤ 1099511627776) (hab : a * b < 18446744073709551616) (hq : a * b / c ≤ 549755813888) (w : World) :
    Calls Try.prog 238 #[.int .i64 (a : Int), .int .i64 (b : Int), .int .i64 (c : Int)] w fun e w' => e = .returned (.int .i64 (mdF a b c : Nat)) ∧ ∃ m, w.drewN m = w' := by
  have HCA := Lib.hid (clamp_any (a : Int) (by omega) (by omega))
  have HCB := Lib.hid (clamp_any (b : Int) (by omega) (by omega))
  have HCC := Lib.hid (clamp_any (c : Int) (by omega) (by omega))
  have HMA := Lib.hid (mag_any a (by omega))
  have HMB := Lib.hid (mag_any b (by omega))
  have HMC := Lib.hid (mag_any c (by omega))
  have HMU := Lib.hid (mul64_any a b (by omega) (by omega) hab)
  have HDV := Lib.hid (div64_any (a * b) c hab hc0 (by omega))
  obtain ⟨R, hR⟩ : ∃ R, R = mdF a b c := ⟨_, rfl⟩
  rw [← hR]
  unfold mdF at hR
  have hr := Nat.mod_lt (a * b) hc0
  have hrl : R ≤ 549755813889 := by rw [hR]; split <;> omega
  have HCR := Lib.hid (clamp_any (R : Int) (by omega) (by omega))
  generalize a * b = ab at *
  obtain ⟨q, hqe⟩ : ∃ q, q = ab / c := ⟨_, rfl⟩
  obtain ⟨r, hre⟩ : ∃ r, r = ab % c := ⟨_, rfl⟩
  rw [← hqe] at hR HDV hq
  rw [← hre] at hR HDV hr
  have HR := Lib.hid hR
  have ha0 : ¬ ((a : Int) < 0) := by omega
  have hb0 : ¬ ((b : Int) < 0) := by omega
  have hc1 : ¬ ((c : Int) < 0) := by omega
  have hc2 : ((c : Int) == 0) = false := by simp; omega
  have hc3 : ¬ ((c : Int) ≤ 0) := by omega
  have hq1 : ¬ ((1099511627776 : Int) < q) := by omega
  have hwr : IntKind.u64.wrap ((c : Int) - r) = (c : Int) - r := by rw [IntKind.wrap_u64]; omega
  have hwq : IntKind.i64.wrap (q : Int) = q := by rw [IntKind.wrap_i64]; omega
  have hwq1 : IntKind.i64.wrap ((q : Int) + 1) = (q : Int) + 1 := by rw [IntKind.wrap_i64]; omega
  clear hR hqe hre hab
  go_enter Try.func238, Try.ntmps238
  go_wp2_with fail
  (with_reducible refine (HCA.out w).mono ?_)
  rintro e w1 ⟨rfl, rfl⟩
  go_wp2_with fail
  (with_reducible refine (HCB.out w).mono ?_)
  rintro e w1 ⟨rfl, rfl⟩
  go_wp2_with fail
  (with_reducible refine (HCC.out w).mono ?_)
  rintro e w1 ⟨rfl, rfl⟩
  go_wp2_with fail
  (with_reducible refine (HMC.out w).mono ?_)
  rintro e w1 ⟨rfl, rfl⟩
  go_wp2_with fail
  (with_reducible refine (HMA.out w).mono ?_)
  rintro e w1 ⟨rfl, rfl⟩
  go_wp2_with fail
  (with_reducible refine (HMB.out w).mono ?_)
  rintro e w1 ⟨rfl, rfl⟩
  go_wp2_with fail
  (with_reducible refine (HMU.out w).mono ?_)
  rintro e w1 ⟨rfl, rfl⟩
  go_wp2_with fail
  (with_reducible refine (HDV.out w).mono ?_)
  rintro e w1 ⟨rfl, m, rfl⟩
  by_cases hrc : (c : Int) - r ≤ r
  · have hRq : R = q + 1 := by rw [HR.out, if_pos (by omega)]
    subst hRq
    have hcast : ((q + 1 : Nat) : Int) = (q : Int) + 1 := by omega
    rw [hcast] at HCR
    go_wp2_with fail
    (with_reducible refine (HCR.out _).mono ?_)
    rintro e w1 ⟨rfl, rfl⟩
    go_wp2_with fail
    go_ret
    exact ⟨by first | rfl | omega | simp | (rw [hcast]), m, rfl⟩
  · have hRq : R = q := by rw [HR.out, if_neg (by omega)]
    subst hRq
    go_wp2_with fail
    (with_reducible refine (HCR.out _).mono ?_)
    rintro e w1 ⟨rfl, rfl⟩
    go_wp2_with fail
    go_ret
    exact ⟨rfl, m, rfl⟩
set_option maxHeartbeats 800000 in
theorem fmul_any (a b : Nat) (ha : a ≤ 1099511627776) (hb : b ≤ 1099511627776) (hab : a * b ≤ 9007199254740992) (w : World) :
    Calls Try.prog 201 #[.int .i64 (a : Int), .int .i64 (b : Int)] w fun e w' => e = .returned (.int .i64 (mdF a b 65536 : Nat)) ∧ ∃ m, w.drewN m = w' := by
  have H : Hid (Calls Try.prog 238 #[.int .i64 (a : Int), .int .i64 (b : Int), .int .i64 65536] w fun e w' => e = .returned (.int .i64 (mdF a b 65536 : Nat)) ∧ ∃ m, w.drewN m = w') := Lib.hid (mulDiv_any a b 65536 ha hb (by omega) (by omega) (by omega) (by omega) w)
  go_enter Try.func201, Try.ntmps201
  go_wp2_with fail
  (with_reducible refine H.out.mono ?_)
  rintro e w1 ⟨rfl, m, rfl⟩
  go_wp2_with fail
  go_ret
  exact ⟨rfl, m, rfl⟩
set_option maxHeartbeats 800000 in
theorem fadd_any (a b : Nat) (ha : a ≤ 274877906944) (hb : b ≤ 274877906944) (w : World) :
    Calls Try.prog 202 #[.int .i64 (a : Int), .int .i64 (b : Int)] w fun e w' => e = .returned (.int .i64 ((a + b : Nat) : Int)) ∧ w = w' := by
  have HA := Lib.hid (clamp_any (a : Int) (by omega) (by omega))
  have HB := Lib.hid (clamp_any (b : Int) (by omega) (by omega))
  have hcast : ((a + b : Nat) : Int) = (a : Int) + b := by omega
  rw [hcast]
  have HC := Lib.hid (clamp_any ((a : Int) + b) (by omega) (by omega))
  go_enter Try.func202, Try.ntmps202
  go_wp2_with fail
  (with_reducible refine (HA.out w).mono ?_)
  rintro e w1 ⟨rfl, rfl⟩
  go_wp2_with fail
  (with_reducible refine (HB.out w).mono ?_)
  rintro e w1 ⟨rfl, rfl⟩
  go_wp2_with fail
  (with_reducible refine (HC.out w).mono ?_)
  rintro e w1 ⟨rfl, rfl⟩
  go_wp2_with fail
  go_ret
  exact ⟨rfl, rfl⟩
set_option maxHeartbeats 800000 in
theorem fdiv_any (a : Nat) (ha : a ≤ 137438953472) (w : World) :
    Calls Try.prog 200 #[.int .i64 (a : Int), .int .i64 196608] w fun e w' => e = .returned (.tuple #[.int .i64 (mdF a 65536 196608 : Nat), .int .i64 0]) ∧ ∃ m, w.drewN m = w' := by
  have H : Hid (Calls Try.prog 238 #[.int .i64 (a : Int), .int .i64 65536, .int .i64 196608] w fun e w' => e = .returned (.int .i64 (mdF a 65536 196608 : Nat)) ∧ ∃ m, w.drewN m = w') := Lib.hid (mulDiv_any a 65536 196608 (by omega) (by omega) (by omega) (by omega) (by omega) (by omega) w)
  go_enter Try.func200, Try.ntmps200
  go_wp2_with fail
  (with_reducible refine H.out.mono ?_)
  rintro e w1 ⟨rfl, m, rfl⟩
  go_wp2_with fail
  go_ret2
  exact ⟨rfl, m, rfl⟩
set_option maxHeartbeats 800000 in
theorem vec_any (x y most : Int) (h : 0 ≤ most) (h2 : most ≤ 1099511627776) (w : World) :
    Calls Try.prog 199 #[.int .i64 x, .int .i64 y, .int .i64 most] w fun e w' => e = .returned (.agg #[.int .i64 (wiF x (-most) most), .int .i64 (wiF y (-most) most)]) ∧ Below w.heap.size w w' := by
  have HW := Lib.hid within_any
  have hneg : IntKind.i64.wrap (-most) = -most := by rw [IntKind.wrap_i64]; omega
  have hle : -most ≤ most := by omega
  go_enter Try.func199, Try.ntmps199
  go_wp2_with fail
  (with_reducible refine (HW.out x (-most) most hle _).mono ?_)
  rintro e w1 ⟨rfl, rfl⟩
  go_wp2_with fail
  (with_reducible refine (HW.out y (-most) most hle _).mono ?_)
  rintro e w1 ⟨rfl, rfl⟩
  go_wp2_with fail
  (try simp only [Exit.inBlock, Exit.then])
  refine bodyPost_ret (v := .agg #[.int .i64 (wiF x (-most) most), .int .i64 (wiF y (-most) most)]) ?_ rfl ⟨rfl, ?_⟩
  · rw [res_cell1 rfl]
    go_simp
  · exact (Below.refl _ w).alloc (Nat.le_refl _) _
/-! ### Mb -/
instance : DecidableEq Fd := fun a b => decidable_of_iff (a.nm = b.nm ∧ a.bits = b.bits ∧ a.low = b.low) ⟨fun ⟨h1, h2, h3⟩ => by cases a; cases b; simp_all, fun h => by rw [h]; exact ⟨rfl, rfl, rfl⟩⟩
/-! ### Me -/
instance : DecidableEq (Wv Kp2) := fun a b => decidable_of_iff (a.ks = b.ks ∧ a.gens = b.gens ∧ a.its = b.its) ⟨fun ⟨h1, h2, h3⟩ => by cases a; cases b; simp_all, fun h => by rw [h]; exact ⟨rfl, rfl, rfl⟩⟩
/-! ### Mg -/
/-- What is kept: blocks below B, and blocks whose type is not in F. -/
structure Kx (B : Nat) (F : List TypeId) (w w' : World) : Prop where
  size : w.heap.size ≤ w'.heap.size
  low : ∀ b, b < B → b < w.heap.size → w'.heap[b]? = w.heap[b]?
  ty : ∀ b t cs, Bk w b t cs → t ∉ F → Bk w' b t cs
section
variable {w w' w2 : World} {B B' : Nat} {F G : List TypeId}
theorem Kx.refl : Kx B F w w := ⟨Nat.le_refl _, fun _ _ _ => rfl, fun _ _ _ h _ => h⟩
theorem Kx.trans (h : Kx B F w w') (k : Kx B F w' w2) : Kx B F w w2 :=
  ⟨Nat.le_trans h.size k.size, fun b h1 h2 => (k.low b h1 (Nat.lt_of_lt_of_le h2 h.size)).trans (h.low b h1 h2), fun b t cs h1 h2 => k.ty b t cs (h.ty b t cs h1 h2) h2⟩
theorem Kx.mono (h : Kx B F w w') (hB : B' ≤ B) (hF : ∀ t, t ∈ F → t ∈ G) : Kx B' G w w' :=
  ⟨h.size, fun b h1 h2 => h.low b (by omega) h2, fun b t cs h1 h2 => h.ty b t cs h1 fun h3 => h2 (hF t h3)⟩
theorem Kx.of_below (h : Below w.heap.size w w') : Kx B F w w' :=
  ⟨h.size, fun b _ h2 => h.block b h2, fun _b _ _ h1 _ => h1.below h h1.lt⟩
theorem Kx.below (h : Kx B F w w') (k : Below w'.heap.size w' w2) : Kx B F w w2 := h.trans (Kx.of_below k)
theorem Kx.alloc (h : Kx B F w w') (o : Obj) : Kx B F w (w'.alloc o) := h.below ((Below.refl _ _).alloc (Nat.le_refl _) o)
theorem Kx.drewN (h : Kx B F w w') (n : Nat) : Kx B F w (w'.drewN n) := ⟨h.size, h.low, h.ty⟩
theorem Kx.drew (h : Kx B F w w') : Kx B F w w'.drew := ⟨h.size, h.low, h.ty⟩
theorem Kx.set (h : Kx B F w w') {g : Nat} {t : TypeId} {cs : Array Value} (hg : Bk w' g t cs) (hB : B ≤ g) (ht : t ∈ F) (i : Nat) (u : Value) : Kx B F w (w'.setCell ⟨g, i, none⟩ u) :=
  h.trans ⟨by simp [World.setCell], fun b h1 _ => Below.heap_setCell _ _ _ _ (by show b ≠ g; omega), fun b t' cs' h1 h2 => h1.far (fun e => by
    have e : b = g := e
    subst e
    exact Bk.ne_ h1 hg (fun e => h2 (by rw [e]; exact ht)) rfl) u⟩
theorem Kx.grown (h : Kx B F w w') {base size n : Nat} {e : TypeId} {v : Value} {xs : List Value} (ho : w'.ownsRow base e size v n xs) (hg : w'.grownBy w2 v.ownBlock) (hB : B ≤ base) (he : e ∈ F) : Kx B F w w2 :=
  h.trans ⟨hg.size, fun b h1 h2 => hg.block b h2 (fun e1 => by have := (ho.lt b e1.symm).1; omega), fun b t cs h1 h2 => h1.grown hg (fun e1 => own_ne ho h1 (fun e2 => h2 (by rw [← e2]; exact he)) e1.symm)⟩
theorem Kx.bk (h : Kx B F w w') {g : Nat} {t : TypeId} {cs : Array Value} (hg : Bk w g t cs) (ht : t ∉ F) : Bk w' g t cs := h.ty g t cs hg ht
theorem Kx.own (h : Kx B F w w') {base size n : Nat} {e : TypeId} {v : Value} {xs : List Value} (ho : w.ownsRow base e size v n xs) (he : e ∉ F) : w'.ownsRow base e size v n xs := by
  refine ⟨ho.1, ?_⟩
  rcases ho.2 with h1 | ⟨g, cap, cur, h1, h2, h3, h4⟩
  · exact .inl h1
  · exact .inr ⟨g, cap, cur, h1, h2, h.ty g e cur h3 he, h4⟩
end
def RdY (w : World) (B : Nat) (e : TypeId) (size : Nat) (A : Option Addr) (n : Nat) (xs : List Value) : Prop :=
  xs.length = n * size ∧ (0 < n → ∃ b o, A = some ⟨b, o, none⟩ ∧ b < w.heap.size ∧ (b < B ∨ ∃ cs, Bk w b e cs) ∧ ∀ j u, xs[j]? = some u → w.cell? ⟨b, o + j, none⟩ = some u)
section
variable {w w' : World} {B B' size n : Nat} {e : TypeId} {A : Option Addr} {xs : List Value} {F : List TypeId}
theorem RdY.rd (h : RdY w B e size A n xs) : Rd w w.heap.size size A n xs := ⟨h.1, fun hn => by
  obtain ⟨b, o, h1, h2, _, h4⟩ := h.2 hn
  exact ⟨b, o, h1, h2, h4⟩⟩
theorem RdY.more (h : RdY w B e size A n xs) (hB : B ≤ B') : RdY w B' e size A n xs := ⟨h.1, fun hn => by
  obtain ⟨b, o, h1, h2, h3, h4⟩ := h.2 hn
  exact ⟨b, o, h1, h2, h3.imp (fun h => Nat.lt_of_lt_of_le h hB) id, h4⟩⟩
theorem RdY.keep (h : RdY w B e size A n xs) (hq : Kx B F w w') (he : e ∉ F) : RdY w' B e size A n xs := ⟨h.1, fun hn => by
  obtain ⟨b, o, h1, h2, h3, h4⟩ := h.2 hn
  have hs := hq.size
  rcases h3 with h3 | ⟨cs, h3⟩
  · exact ⟨b, o, h1, by omega, .inl h3, fun j u hu => (World.cell?_of_block (w := w) (hq.low b h3 h2)).trans (h4 j u hu)⟩
  · have h5 := hq.ty b e cs h3 he
    exact ⟨b, o, h1, by omega, .inr ⟨cs, h5⟩, fun j u hu => (World.cell?_of_block (w := w) (h5.trans h3.symm)).trans (h4 j u hu)⟩⟩
theorem RdY.nil_ (A : Option Addr) : RdY w B e size A 0 [] := ⟨by simp, fun h => absurd h (by omega)⟩
theorem RdY.of_own {base c : Nat} (h : w.ownsRow base e size (.slice A n c) n xs) : RdY w B e size A n xs := by
  refine ⟨h.1, fun hn => ?_⟩
  obtain ⟨b, o, cs, h1, h2, h3⟩ := (Tr.of_own h).2 hn
  exact ⟨b, o, h1, h2.lt, .inr ⟨cs, h2⟩, fun j u hu => (h2.cell _).trans (h3 j u hu)⟩
theorem RdY.of_bk {g : Nat} {cs : Array Value} (h : Bk w g e cs) (hs : xs.length = n * size) (hx : ∀ (j : Nat) (u : Value), xs[j]? = some u → cs[j]? = some u) : RdY w B e size (some ⟨g, 0, none⟩) n xs :=
  ⟨hs, fun _ => ⟨g, 0, rfl, h.lt, .inr ⟨cs, h⟩, fun j u hu => (h.cell _).trans (by rw [Nat.zero_add]; exact hx j u hu)⟩⟩
end
structure KdY (w : World) (B : Nat) (k : Kd) : Prop where
  rd : RdY w B 66 3 k.A k.n (fdCs k.fds)
  len : k.n = k.fds.length
  cap : k.n ≤ k.c
  cap2 : k.c ≤ 9223372036854775807
structure KsY (w : World) (B : Nat) (A : Option Addr) (n c : Nat) (ks : List Kd) : Prop where
  rd : RdY w B 63 2 A n (kdCs ks)
  len : n = ks.length
  cap : n ≤ c
  cap2 : c ≤ 9223372036854775807
  ok : ∀ k ∈ ks, KdY w B k
structure CmY (w : World) (B : Nat) (x : Cm) : Prop where
  rd : RdY w B 3 1 x.A x.n (x.vals.map (Value.int .i64))
  len : x.n = x.vals.length
  cap : x.n ≤ x.c
  cap2 : x.c ≤ 9223372036854775807
  wf : (Lit.int .i64 x.k).wf = true
structure CsY (w : World) (B : Nat) (A : Option Addr) (n c : Nat) (l : List Cm) : Prop where
  rd : RdY w B 166 2 A n (cmCs l)
  len : n = l.length
  cap : n ≤ c
  cap2 : c ≤ 9223372036854775807
  ok : ∀ x ∈ l, CmY w B x
structure ItY (w : World) (B : Nat) (x : It) : Prop where
  cs : CsY w B x.A x.n x.c x.cms
  wf1 : (Lit.int .i64 x.e).wf = true
  wf2 : (Lit.int .i64 x.g).wf = true
structure IsY (w : World) (B : Nat) (A : Option Addr) (n c : Nat) (l : List It) : Prop where
  rd : RdY w B 147 3 A n (itCs l)
  len : n = l.length
  cap : n ≤ c
  cap2 : c ≤ 9223372036854775807
  ok : ∀ x ∈ l, ItY w B x
structure GsY (w : World) (B : Nat) (A : Option Addr) (n c : Nat) (l : List Int) : Prop where
  rd : RdY w B 3 1 A n (l.map (Value.int .i64))
  len : n = l.length
  cap : n ≤ c
  cap2 : c ≤ 9223372036854775807
  wf : ∀ g ∈ l, (Lit.int .i64 g).wf = true
structure WdY (w : World) (B : Nat) (x : Wd) : Prop where
  ks : KsY w B x.kA x.kn x.kc x.ks
  gs : GsY w B x.gA x.gn x.gc x.gens
  its : IsY w B x.iA x.im x.ic x.its
section
variable {w w' : World} {B B' n c : Nat} {A : Option Addr} {F : List TypeId}
theorem KdY.keep {k : Kd} (h : KdY w B k) (hq : Kx B F w w') (h66 : (66 : TypeId) ∉ F) : KdY w' B k := ⟨h.rd.keep hq h66, h.len, h.cap, h.cap2⟩
theorem KsY.keep {l : List Kd} (h : KsY w B A n c l) (hq : Kx B F w w') (h66 : (66 : TypeId) ∉ F) (h63 : (63 : TypeId) ∉ F) : KsY w' B A n c l := ⟨h.rd.keep hq h63, h.len, h.cap, h.cap2, fun x hx => (h.ok x hx).keep hq h66⟩
theorem CmY.keep {x : Cm} (h : CmY w B x) (hq : Kx B F w w') (h3 : (3 : TypeId) ∉ F) : CmY w' B x := ⟨h.rd.keep hq h3, h.len, h.cap, h.cap2, h.wf⟩
theorem CsY.keep {l : List Cm} (h : CsY w B A n c l) (hq : Kx B F w w') (h3 : (3 : TypeId) ∉ F) (h166 : (166 : TypeId) ∉ F) : CsY w' B A n c l := ⟨h.rd.keep hq h166, h.len, h.cap, h.cap2, fun x hx => (h.ok x hx).keep hq h3⟩
theorem ItY.keep {x : It} (h : ItY w B x) (hq : Kx B F w w') (h3 : (3 : TypeId) ∉ F) (h166 : (166 : TypeId) ∉ F) : ItY w' B x := ⟨h.cs.keep hq h3 h166, h.wf1, h.wf2⟩
theorem IsY.keep {l : List It} (h : IsY w B A n c l) (hq : Kx B F w w') (h3 : (3 : TypeId) ∉ F) (h166 : (166 : TypeId) ∉ F) (h147 : (147 : TypeId) ∉ F) : IsY w' B A n c l := ⟨h.rd.keep hq h147, h.len, h.cap, h.cap2, fun x hx => (h.ok x hx).keep hq h3 h166⟩
theorem GsY.keep {l : List Int} (h : GsY w B A n c l) (hq : Kx B F w w') (h3 : (3 : TypeId) ∉ F) : GsY w' B A n c l := ⟨h.rd.keep hq h3, h.len, h.cap, h.cap2, h.wf⟩
theorem WdY.keep {x : Wd} (h : WdY w B x) (hq : Kx B F w w') (h3 : (3 : TypeId) ∉ F) (h166 : (166 : TypeId) ∉ F) (h147 : (147 : TypeId) ∉ F) (h66 : (66 : TypeId) ∉ F) (h63 : (63 : TypeId) ∉ F) : WdY w' B x := ⟨h.ks.keep hq h66 h63, h.gs.keep hq h3, h.its.keep hq h3 h166 h147⟩
theorem KsY.ok_ {l : List Kd} (h : KsY w B A n c l) : KsOk w w.heap.size A n c l := ⟨h.rd.rd, h.len, h.cap, h.cap2, fun x hx => ⟨(h.ok x hx).rd.rd, (h.ok x hx).len, (h.ok x hx).cap, (h.ok x hx).cap2⟩, Nat.le_refl _⟩
theorem CmY.ok_ {x : Cm} (h : CmY w B x) : CmOk w w.heap.size x := ⟨h.rd.rd, h.len, h.cap, h.cap2, h.wf⟩
theorem CsY.ok_ {l : List Cm} (h : CsY w B A n c l) : CsOk w w.heap.size A n c l := ⟨h.rd.rd, h.len, h.cap, h.cap2, fun x hx => (h.ok x hx).ok_, Nat.le_refl _⟩
theorem ItY.ok_ {x : It} (h : ItY w B x) : ItOk w w.heap.size x := ⟨h.cs.ok_, h.wf1, h.wf2⟩
theorem IsY.ok_ {l : List It} (h : IsY w B A n c l) : IsOk w w.heap.size A n c l := ⟨h.rd.rd, h.len, h.cap, h.cap2, fun x hx => (h.ok x hx).ok_, Nat.le_refl _⟩
theorem GsY.ok_ {l : List Int} (h : GsY w B A n c l) : GsOk w w.heap.size A n c l := ⟨h.rd.rd, h.len, h.cap, h.cap2, h.wf, Nat.le_refl _⟩
theorem WdY.ok_ {x : Wd} (h : WdY w B x) : WdOk w w.heap.size x := ⟨h.ks.ok_, h.gs.ok_, h.its.ok_⟩
theorem KsY.more {l : List Kd} (h : KsY w B A n c l) (hB : B ≤ B') : KsY w B' A n c l := ⟨h.rd.more hB, h.len, h.cap, h.cap2, fun x hx => ⟨(h.ok x hx).rd.more hB, (h.ok x hx).len, (h.ok x hx).cap, (h.ok x hx).cap2⟩⟩
theorem CmY.more {x : Cm} (h : CmY w B x) (hB : B ≤ B') : CmY w B' x := ⟨h.rd.more hB, h.len, h.cap, h.cap2, h.wf⟩
theorem CsY.more {l : List Cm} (h : CsY w B A n c l) (hB : B ≤ B') : CsY w B' A n c l := ⟨h.rd.more hB, h.len, h.cap, h.cap2, fun x hx => (h.ok x hx).more hB⟩
theorem ItY.more {x : It} (h : ItY w B x) (hB : B ≤ B') : ItY w B' x := ⟨h.cs.more hB, h.wf1, h.wf2⟩
theorem IsY.more {l : List It} (h : IsY w B A n c l) (hB : B ≤ B') : IsY w B' A n c l := ⟨h.rd.more hB, h.len, h.cap, h.cap2, fun x hx => (h.ok x hx).more hB⟩
theorem GsY.more {l : List Int} (h : GsY w B A n c l) (hB : B ≤ B') : GsY w B' A n c l := ⟨h.rd.more hB, h.len, h.cap, h.cap2, h.wf⟩
theorem WdY.more {x : Wd} (h : WdY w B x) (hB : B ≤ B') : WdY w B' x := ⟨h.ks.more hB, h.gs.more hB, h.its.more hB⟩
end
/-! ### Rows that are filled in order -/
/-! ### Mj -/
theorem own_fullN {w : World} {base n g size : Nat} {e : TypeId} {xs : List Value} (h : w.ownsRow base e size (.slice (some ⟨g, 0, none⟩) n n) n xs) : base ≤ g ∧ Bk w g e xs.toArray := by
  rcases h.2 with ⟨hv, _⟩ | ⟨g', cap, cur, hv, hb, hh, _, _, hs, ht⟩
  · cases hv
  · injection hv with h1 h2 h3
    injection h1 with h1
    injection h1 with h1
    subst h1; subst h3
    refine ⟨hb, ?_⟩
    have e : cur.toList = xs := by rw [← ht, List.take_of_length_le (by simp [hs])]
    unfold Bk
    rw [hh, ← e]
theorem madeN (z : Value) (m : Nat) : (madeCells z.cells m).size = m := by unfold madeCells; simp
/-- A row of structs that is filled in order: the first k have been laid. -/
structure Fill (w : World) (g : Nat) (t : TypeId) (size n k : Nat) (xs : List Value) : Prop where
  bk : ∃ cs : Array Value, Bk w g t cs ∧ cs.size = n * size ∧ cs.toList.take (k * size) = xs
theorem Fill.keep {w w' : World} {B g size n k : Nat} {t : TypeId} {xs : List Value} {F : List TypeId} (h : Fill w g t size n k xs) (hq : Kx B F w w') (ht : t ∉ F) : Fill w' g t size n k xs := by
  obtain ⟨cs, h1, h2⟩ := h.bk
  exact ⟨cs, hq.bk h1 ht, h2⟩
theorem Fill.below {w w' : World} {B g size n k : Nat} {t : TypeId} {xs : List Value} (h : Fill w g t size n k xs) (hb : Below B w w') (hB : g < B) : Fill w' g t size n k xs := by
  obtain ⟨cs, h1, h2⟩ := h.bk
  exact ⟨cs, h1.below hb hB, h2⟩
theorem Fill.lt {w : World} {g size n k : Nat} {t : TypeId} {xs : List Value} (h : Fill w g t size n k xs) : g < w.heap.size := by
  obtain ⟨cs, h1, _⟩ := h.bk
  exact h1.lt
theorem Fill.at_ {w : World} {g size n k : Nat} {t : TypeId} {xs : List Value} (h : Fill w g t size n k xs) {j : Nat} (hj : j < n * size) : ∃ u, w.cell? ⟨g, j, none⟩ = some u := by
  obtain ⟨cs, h1, h2, _⟩ := h.bk
  exact ⟨_, (h1.cell j).trans (Array.getElem?_eq_getElem (by omega))⟩
theorem Fill.frozen {w : World} {g size n k : Nat} {t : TypeId} {xs : List Value} (h : Fill w g t size n k xs) (j : Nat) : w.frozen? ⟨g, j, none⟩ = false := by
  obtain ⟨cs, h1, _⟩ := h.bk
  exact h1.frozen j
theorem Fill.made {w : World} {base g n size : Nat} {t : TypeId} {z : Value} (h : w.ownsRow base t size (.slice (some ⟨g, 0, none⟩) n n) n (madeCells z.cells (n * size)).toList) : base ≤ g ∧ Fill w g t size n 0 [] := by
  obtain ⟨h1, h2⟩ := own_fullN h
  exact ⟨h1, ⟨_, h2, by simp [madeN], by simp⟩⟩
theorem Fill.rd {w : World} {B g size n : Nat} {t : TypeId} {xs : List Value} (h : Fill w g t size n n xs) : RdY w B t size (some ⟨g, 0, none⟩) n xs := by
  obtain ⟨cs, h1, h2, h3⟩ := h.bk
  refine RdY.of_bk h1 (by rw [← h3, List.length_take, Array.length_toList]; omega) fun j u hu => ?_
  rw [← h3, List.getElem?_take] at hu
  split at hu
  · simpa using hu
  · cases hu
theorem T.infoCm : (Try.prog.info? 166).map (fun i => (i.zero, i.size, i.bytes)) = some (some (.agg #[.int .i64 0, .slice none 0 0]), 2, 32) := by kernel_rfl
/-! ### Bb -/
theorem find_hit {α : Type} {p : α → Bool} : ∀ {l : List α} {i : Nat} {x : α}, l[i]? = some x → p x = true → (∀ (j : Nat) (y : α), j < i → l[j]? = some y → p y = false) → l.find? p = some x
  | [], _, _, h, _, _ => by simp at h
  | a :: r, 0, x, h, hp, _ => by
    have e : a = x := by simpa using h
    rw [e, List.find?_cons_of_pos hp]
  | a :: r, i + 1, x, h, hp, hf => by
    rw [List.find?_cons_of_neg (by rw [hf 0 a (by omega) rfl]; simp)]
    exact find_hit (by simpa using h) hp fun j y hj hy => hf (j + 1) y (by omega) (by simpa using hy)
theorem find_no {α : Type} {p : α → Bool} {l : List α} (h : ∀ (j : Nat) (y : α), l[j]? = some y → p y = false) : l.find? p = none :=
  List.find?_eq_none.2 fun y hy => by
    obtain ⟨j, hj⟩ := List.mem_iff_getElem?.1 hy
    rw [h j y hj]; simp
/-- The component of a kind. -/
def cmAt (l : List Cm) (k : Int) : Option Cm := l.find? fun c => decide (c.k = k)
def vaV : Option Cm → Value
  | none => .slice none 0 0
  | some cm => .slice cm.A cm.n cm.c
set_option maxHeartbeats 1600000 in
theorem bvals_any {w : World} {B n c : Nat} {A : Option Addr} {l : List Cm} (h : CsOk w B A n c l) (e g k : Int) :
    Calls Try.prog 151 #[.agg #[.int .i64 e, .int .i64 g, .slice A n c], .int .i64 k] w fun r w' => r = .returned (vaV (cmAt l k)) ∧ Below w.heap.size w w' := by
  obtain ⟨R, hR⟩ : ∃ R, R = vaV (cmAt l k) := ⟨_, rfl⟩
  rw [← hR]
  have hcap := h.cap
  have hcap2 := h.cap2
  have hB := h.lo
  have hb0 : Below w.heap.size w (w.alloc (.cells #[.int .i64 e, .int .i64 g, .slice A n c] 147)) := (Below.refl _ _).alloc (Nat.le_refl _) _
  have q0 : (w.alloc (.cells #[.int .i64 e, .int .i64 g, .slice A n c] 147)).cell? ⟨w.heap.size, 2, none⟩ = some (.slice A n c) := (Bk.new w 147 #[.int .i64 e, .int .i64 g, .slice A n c]).cell 2
  have HB0 := Lib.hid hb0
  have HR := Lib.hid hR
  have HK := Lib.hid h
  clear h hR hb0
  go_enter Try.func151, Try.ntmps151
  go_wp2_with fail
  go_loopw [10] (fun iv wr => ∃ i : Nat, i ≤ n ∧ iv = .int .i64 i ∧ Hid (∀ (j : Nat) (x : Cm), j < i → l[j]? = some x → ¬ x.k = k) ∧ Hid (Below w.heap.size w wr)) (fun iv _ => n - (intOf iv).toNat)
  case atStart => exact ⟨0, Nat.zero_le _, rfl, Lib.hid (fun j x hj => by omega), HB0⟩
  case round =>
    clear q0 HB0
    obtain ⟨i, hi, rfl, HT, HW⟩ := hrel
    by_cases hlt : i < n
    · obtain ⟨x, hx⟩ : ∃ x, l[i]? = some x := ⟨_, List.getElem?_eq_getElem (by have := HK.out.len; omega)⟩
      obtain ⟨b, o, rfl, hbb, r0, r1⟩ := (HK.out.below (HW.out.mono hB)).rd.cm hlt hx
      have hiz : (i : Int) < n := by omega
      have hiz0 : (0 : Int) ≤ i := by omega
      have HX := Lib.hid hx
      obtain ⟨hh, hhe⟩ : ∃ hh, hh = wr.heap.size := ⟨_, rfl⟩
      obtain ⟨W1, hW1⟩ : ∃ W1, W1 = wr.alloc (.cells #[.int .i64 x.k, .slice x.A x.n x.c] 166) := ⟨_, rfl⟩
      have hk1 : Bk W1 hh 166 #[.int .i64 x.k, .slice x.A x.n x.c] := by rw [hW1, hhe]; exact Bk.new _ _ _
      have HB1 : Hid (Below w.heap.size w W1) := Lib.hid (by rw [hW1]; exact HW.out.alloc HW.out.size _)
      have s0 : W1.cell? ⟨hh, 0, none⟩ = some (.int .i64 x.k) := hk1.cell 0
      have s1 : W1.cell? ⟨hh, 1, none⟩ = some (.slice x.A x.n x.c) := hk1.cell 1
      have HW1 := Lib.hid (And.intro hW1 hhe)
      clear hx hbb hk1 hW1 hhe
      go_upto_region 4 with fail
      rw [← HW1.out.1, ← HW1.out.2]
      clear r0 r1
      by_cases hk : x.k = k
      · have t0 : (x.k == k) = true := by simp [hk]
        have HP : Hid (vaV (cmAt l k) = .slice x.A x.n x.c) := Lib.hid (by
          unfold cmAt
          rw [find_hit HX.out (decide_eq_true hk) fun j y hj hy => decide_eq_false (HT.out j y hj hy)]; rfl)
        have e : R = .slice x.A x.n x.c := HR.out.trans HP.out
        clear hk HR HP
        subst e
        go_wp2_with fail
        go_ret
        exact ⟨rfl, HB1.out⟩
      · have t0 : (x.k == k) = false := by simp [hk]
        have HT2 : Hid (∀ (j : Nat) (y : Cm), j < i + 1 → l[j]? = some y → ¬ y.k = k) := Lib.hid fun j y hj hy => by
          rcases Nat.lt_or_ge j i with h | h
          · exact HT.out j y h hy
          · obtain rfl : j = i := by omega
            rw [HX.out] at hy
            injection hy with hy
            rw [← hy]; exact hk
        clear hk HT
        go_wp2_with fail
        go_roundw
        case measure => simp [intOf]; omega
        case rel => exact ⟨i + 1, by omega, by go_num, HT2, HB1⟩
    · obtain rfl : n = i := by omega
      have HP : Hid (vaV (cmAt l k) = .slice none 0 0) := Lib.hid (by
        unfold cmAt
        rw [find_no fun j y hy => decide_eq_false (HT.out j y (by have := (List.getElem?_eq_some_iff.1 hy).1; have := HK.out.len; omega) hy)]; rfl)
      have e : R = .slice none 0 0 := HR.out.trans HP.out
      clear HR HP
      subst e
      go_wp2_with fail
      go_ret
      exact ⟨rfl, HW.out⟩
/-- A copy of the values, or nothing. -/
def RvP (w : World) (l : List Cm) (k : Int) (r : Ending) (w' : World) : Prop :=
  match if 0 ≤ k then cmAt l k else none with
  | none => r = .returned (.slice none 0 0) ∧ Below w.heap.size w w'
  | some cm => ∃ (A' : Option Addr) (c' : Nat), r = .returned (.slice A' cm.n c') ∧ w'.ownsRow w.heap.size 3 1 (.slice A' cm.n c') cm.n (cm.vals.map (Value.int .i64)) ∧ Below w.heap.size w w'
set_option maxHeartbeats 1600000 in
theorem rvals_any {w : World} {B n c : Nat} {A : Option Addr} {l : List Cm} (h : CsOk w B A n c l) (e g k : Int) (hsz : ∀ cm ∈ l, cm.n ≤ 1048576) :
    Calls Try.prog 70 #[.agg #[.int .i64 e, .int .i64 g, .slice A n c], .int .i64 k] w (RvP w l k) := by
  obtain ⟨i3, hi3, hz30, hz31, hz32⟩ := info_parts T.info3
  have hcap := h.cap
  have hcap2 := h.cap2
  have hB := h.lo
  have hb0 : Below w.heap.size w (w.alloc (.cells #[.int .i64 e, .int .i64 g, .slice A n c] 147)) := (Below.refl _ _).alloc (Nat.le_refl _) _
  have q0 : (w.alloc (.cells #[.int .i64 e, .int .i64 g, .slice A n c] 147)).cell? ⟨w.heap.size, 2, none⟩ = some (.slice A n c) := (Bk.new w 147 #[.int .i64 e, .int .i64 g, .slice A n c]).cell 2
  have HB0 := Lib.hid hb0
  have HK := Lib.hid h
  have HSZ := Lib.hid hsz
  clear h hb0 hsz
  go_enter Try.func70, Try.ntmps70
  go_wp2_with fail
  go_loopw [10] (fun iv wr => ∃ i : Nat, i ≤ n ∧ iv = .int .i64 i ∧ Hid (∀ (j : Nat) (x : Cm), j < i → l[j]? = some x → ¬ (x.k = k ∧ 0 ≤ k)) ∧ Hid (Below w.heap.size w wr)) (fun iv _ => n - (intOf iv).toNat)
  case atStart => exact ⟨0, Nat.zero_le _, rfl, Lib.hid (fun j x hj => by omega), HB0⟩
  case round =>
    clear q0 HB0
    obtain ⟨i, hi, rfl, HT, HW⟩ := hrel
    by_cases hlt : i < n
    · obtain ⟨x, hx⟩ : ∃ x, l[i]? = some x := ⟨_, List.getElem?_eq_getElem (by have := HK.out.len; omega)⟩
      have hkw := HK.out.below (HW.out.mono hB)
      have hxo := hkw.ok x (List.mem_of_getElem? hx)
      have hxs := HSZ.out x (List.mem_of_getElem? hx)
      obtain ⟨b, o, rfl, hbb, r0, r1⟩ := hkw.rd.cm hlt hx
      have hiz : (i : Int) < n := by omega
      have hiz0 : (0 : Int) ≤ i := by omega
      have HX := Lib.hid hx
      obtain ⟨hh, hhe⟩ : ∃ hh, hh = wr.heap.size := ⟨_, rfl⟩
      obtain ⟨W1, hW1⟩ : ∃ W1, W1 = wr.alloc (.cells #[.int .i64 x.k, .slice x.A x.n x.c] 166) := ⟨_, rfl⟩
      have hk1 : Bk W1 hh 166 #[.int .i64 x.k, .slice x.A x.n x.c] := by rw [hW1, hhe]; exact Bk.new _ _ _
      have hbw1 : Below wr.heap.size wr W1 := by rw [hW1]; exact (Below.refl _ _).alloc (Nat.le_refl _) _
      have HB1 : Hid (Below w.heap.size w W1) := Lib.hid (HW.out.trans (hbw1.mono HW.out.size))
      have s0 : W1.cell? ⟨hh, 0, none⟩ = some (.int .i64 x.k) := hk1.cell 0
      have s1 : (W1.alloc (.cells #[] 3)).cell? ⟨hh, 1, none⟩ = some (.slice x.A x.n x.c) := (hk1.alloc _).cell 1
      have HXO : Hid (Rd W1 B 1 x.A x.n (x.vals.map (Value.int .i64))) := Lib.hid (hxo.rd.below (hbw1.mono (Nat.le_trans hB HW.out.size)))
      have HW1 := Lib.hid (And.intro hW1 hhe)
      have hs1 : w.heap.size ≤ W1.heap.size := HB1.out.size
      have hxcap := hxo.cap
      have hxcap2 := hxo.cap2
      clear hx hbb hk1 hW1 hhe hkw hxo hbw1
      go_upto_region 4 with fail
      rw [← HW1.out.1, ← HW1.out.2]
      clear r0 r1
      by_cases hk : x.k = k
      · subst hk
        have t0 : (x.k == x.k) = true := by simp
        by_cases hp : 0 ≤ x.k
        · have HP : Hid ((if 0 ≤ x.k then cmAt l x.k else none) = some x) := Lib.hid (by
            rw [if_pos hp]
            unfold cmAt
            rw [find_hit HX.out (decide_eq_true rfl) fun j y hj hy => decide_eq_false fun h => HT.out j y hj hy ⟨h, hp⟩])
          clear HT
          go_wp2_with
            (at_builtin
             go_must (refine wpList_append_rd _ rfl (.tmp 22) (.tmp 24) _ rfl w.heap.size 3 i3 (.int .i64 0) 1 8 Try.underlying30 hi3 hz30 hz31 hz32 rfl (by decide) (.slice (some ⟨W1.heap.size, 0, none⟩) 0 0) 0 [] rfl (World.ownsRow_lit W1 #[] 0 hs1 (by decide) rfl) B x.A x.n x.c (x.vals.map (Value.int .i64)) rfl (HXO.out.below ((Below.refl _ _).alloc (Nat.le_trans hB hs1) _)) (by intro u hu; obtain ⟨z, _, rfl⟩ := List.mem_map.1 hu; rfl) ?c2 ?c3 ?c4 ?_)
             case c2 => unfold maxLen; omega
             case c3 => omega
             case c4 => (simp; omega)
             intro A' c' w1 hown1 hg1 hat1)
          go_ret
          simp only [Nat.zero_add, List.nil_append] at hown1
          unfold RvP
          rw [HP.out]
          exact ⟨A', c', by simp, hown1, (HB1.out.alloc hs1 _).grown hg1 (by simp; omega) (by simp [Value.ownBlock]; omega)⟩
        · have t1 : decide (0 ≤ x.k) = false := decide_eq_false hp
          have hp2 : x.k < 0 := by omega
          have HT2 : Hid (∀ (j : Nat) (y : Cm), j < i + 1 → l[j]? = some y → ¬ (y.k = x.k ∧ 0 ≤ x.k)) := Lib.hid fun j y _ _ h => hp h.2
          clear HT hp
          go_wp2_with fail
          go_roundw
          case measure => simp [intOf]; omega
          case rel => exact ⟨i + 1, by omega, by go_num, HT2, HB1⟩
      · have t0 : (x.k == k) = false := by simp [hk]
        have HT2 : Hid (∀ (j : Nat) (y : Cm), j < i + 1 → l[j]? = some y → ¬ (y.k = k ∧ 0 ≤ k)) := Lib.hid fun j y hj hy => by
          rcases Nat.lt_or_ge j i with h | h
          · exact HT.out j y h hy
          · obtain rfl : j = i := by omega
            rw [HX.out] at hy
            injection hy with hy
            rw [← hy]; exact fun h => hk h.1
        clear hk HT
        go_wp2_with fail
        go_roundw
        case measure => simp [intOf]; omega
        case rel => exact ⟨i + 1, by omega, by go_num, HT2, HB1⟩
    · obtain rfl : n = i := by omega
      have HP : Hid ((if 0 ≤ k then cmAt l k else none) = none) := Lib.hid (by
        split
        · rename_i hk
          unfold cmAt
          exact find_no fun j y hy => decide_eq_false fun h => HT.out j y (by have := (List.getElem?_eq_some_iff.1 hy).1; have := HK.out.len; omega) hy ⟨h, hk⟩
        · rfl)
      go_wp2_with fail
      go_ret
      unfold RvP
      rw [HP.out]
      exact ⟨rfl, HW.out⟩
/-! ### Re -/
section
variable {P : Program} {ops : Array Oper} {Q : Exit → Act → World → Prop} {md : Region.Mode} {S : World → Prop} {last : Nat}
/-- Whatever order is picked from here on; S holds behind each operation but the last. -/
def wpAnyE (P : Program) (md : Region.Mode) (ops : Array Oper) (Q : Exit → Act → World → Prop) (S : World → Prop) (last : Nat) : Nat → Array Bool → Act → World → Prop
  | 0, listed, a, w => Region.ready md ops listed = [] ∧ Q .normal a w
  | fuel + 1, listed, a, w =>
    (Region.ready md ops listed = [] → Q .normal a w) ∧
    ∀ i ∈ Region.ready md ops listed, wpOp P ops Q i (fun a' w' => (i ≠ last → S w') ∧ wpAnyE P md ops Q S last fuel (listed.setIfInBounds i true) a' w') a w
theorem wpAny_of_E : ∀ (fuel : Nat) (listed : Array Bool) (a : Act) (w : World), wpAnyE P md ops Q S last fuel listed a w → wpAny P md ops Q fuel listed a w
  | 0, _, _, _, h => h
  | fuel + 1, _, _, _, h => ⟨h.1, fun i hi => wpOp_mono (fun a' w' h' => wpAny_of_E fuel _ a' w' h'.2) (h.2 i hi)⟩
theorem wpAnyE_first {i : Nat} {oi ol : Oper} {v : Value} (hi : ops[i]? = some oi) (hsel : ∀ (j : Nat) (o : Oper) cs b, ops[j]? = some o → o.op ≠ .select cs b)
    (hQ : ∀ c a w, Q (.panic c) (a.put oi.dst v) w → Q (.panic c) a w) (hil : i ≠ last) (hol : ops[last]? = some ol) (hwt : ∃ e ∈ ol.after, Region.binds md e = true ∧ e.on = i) :
    ∀ (fuel : Nat) (listed : Array Bool) (a : Act) (w : World),
      (∀ j oj, ops[j]? = some oj → j ≠ i → listed.getD j true = false → (∀ e ∈ oj.after, Region.binds md e = true → e.on ≠ i) → oi.apart ops oj = true) →
      i ∈ Region.ready md ops listed → YieldsIf P ops S oi v a → S w →
      wpAnyE P md ops Q S last fuel (listed.setIfInBounds i true) (a.put oi.dst v) w → wpAnyE P md ops Q S last (fuel + 1) listed a w := by
  intro fuel
  induction fuel with
  | zero =>
    intro listed a w _ hr hy hS H
    refine ⟨fun h => (by rw [h] at hr; cases hr), fun j hj => ?_⟩
    by_cases hji : j = i
    · subst hji; exact hy.wpOp hi hS ⟨fun _ => hS, H⟩
    · have := ready_mono hj hji
      rw [H.1] at this
      cases this
  | succ fuel ih =>
    intro listed a w hfree hr hy hS H
    refine ⟨fun h => (by rw [h] at hr; cases hr), fun j hj => ?_⟩
    by_cases hji : j = i
    · subst hji; exact hy.wpOp hi hS ⟨fun _ => hS, H⟩
    · have h1 := H.2 j (ready_mono hj hji)
      obtain ⟨hjun, oj, hoj, hall⟩ := mem_ready.1 hj
      have hnot : ∀ e ∈ oj.after, Region.binds md e = true → e.on ≠ i := fun e he hb heq => by
        have h1 := hall e he hb
        have h0 := (mem_ready.1 hr).1
        rw [heq] at h1
        rcases Nat.lt_or_ge i listed.size with h' | h'
        · simp [h'] at h0 h1; rw [h0] at h1; cases h1
        · simp [Array.getElem?_eq_none h'] at h1
      have hjl : j ≠ last := fun e => by
        subst e
        rw [hol] at hoj
        injection hoj with hoj
        subst hoj
        obtain ⟨e, he, hb, heq⟩ := hwt
        exact hnot e he hb heq
      have h2 := wpOp_putIf hoj (hfree j oj hoj hji hjun hnot) (fun cs b => hsel i oi cs b hi) (fun cs b => hsel j oj cs b hoj) hQ hy h1
      have hfree' : ∀ k ok, ops[k]? = some ok → k ≠ i → (listed.setIfInBounds j true).getD k true = false →
          (∀ e ∈ ok.after, Region.binds md e = true → e.on ≠ i) → oi.apart ops ok = true := fun k ok hk hki hun hno => by
        refine hfree k ok hk hki ?_ hno
        by_cases hjk : j = k
        · subst hjk; exact hjun
        · rw [getD_set_ne true hjk] at hun; exact hun
      refine wpOp_mono (fun a' w' h3 => ⟨fun _ => h3.2.1 hjl, ih (listed.setIfInBounds j true) a' w' hfree' (ready_mono hr (Ne.symm hji)) h3.1 (h3.2.1 hjl) ?_⟩) h2
      rw [Array.setIfInBounds_comm _ _ hji]
      exact h3.2.2
/-- Number i waits for nobody who writes what it reads, and the last operation waits for it. -/
def waits (md : Region.Mode) (ops : Array Oper) (last i : Nat) : Bool := (i != last) && ((ops[last]?).map fun o => o.after.any fun e => Region.binds md e && e.on == i).getD false
theorem wpAnyE_val {i : Nat} {oi : Oper} {d : Option Tmp} {v : Value} {fuel : Nat} {listed : Array Bool} {a : Act} {w : World} (hi : ops[i]? = some oi) (hd : oi.dst = d)
    (hs : Region.noSelect ops = true) (hf : Region.free md ops listed i = true) (hr : (Region.ready md ops listed).contains i = true) (hwl : waits md ops last i = true)
    (hQ : ∀ c a w, Q (.panic c) (a.put d v) w → Q (.panic c) a w) (hy : YieldsIf P ops S oi v a) (hS : S w)
    (h : wpAnyE P md ops Q S last fuel (listed.setIfInBounds i true) (a.put d v) w) : wpAnyE P md ops Q S last (fuel + 1) listed a w := by
  subst hd
  unfold waits at hwl
  rw [Bool.and_eq_true] at hwl
  obtain ⟨h1, h2⟩ := hwl
  cases hol : ops[last]? with
  | none => rw [hol] at h2; cases h2
  | some ol =>
    rw [hol] at h2
    have h3 : (ol.after.any fun e => Region.binds md e && e.on == i) = true := h2
    obtain ⟨e, he, h4⟩ := Array.any_eq_true'.1 h3
    rw [Bool.and_eq_true] at h4
    exact wpAnyE_first hi (Region.noSelect_spec hs) hQ (by simpa using h1) hol ⟨e, he, h4.1, by simpa using h4.2⟩ fuel listed a w (Region.free_spec hi hf) (by simpa using hr) hy hS h
theorem wpAnyE_one {i : Nat} {oi : Oper} {fuel : Nat} {listed : Array Bool} {a : Act} {w : World} (hi : ops[i]? = some oi) (hr : Region.ready md ops listed = [i]) (hg : oi.guard = none)
    (h : oi.wp P a w (fun a' w' => (i ≠ last → S w') ∧ wpAnyE P md ops Q S last fuel (listed.setIfInBounds i true) a' w') Q) : wpAnyE P md ops Q S last (fuel + 1) listed a w :=
  ⟨(fun h0 => by rw [hr] at h0; cases h0), fun j hj => by
    rw [hr] at hj
    have e : j = i := by simpa using hj
    subst e
    unfold wpOp
    have hw : Region.wanted oi (yielded ops a.tmps) = true := by simp [Region.wanted, hg]
    simp only [hi, hw, if_true]
    exact .inl h⟩
theorem wpAnyE_if {i : Nat} {oi : Oper} {fuel : Nat} {listed : Array Bool} {a : Act} {w : World} (hi : ops[i]? = some oi) (hr : Region.ready md ops listed = [i]) (hg : oi.guard = none)
    (h : if Region.wanted oi (yielded ops a.tmps) = true then oi.wp P a w (fun a' w' => (i ≠ last → S w') ∧ wpAnyE P md ops Q S last fuel (listed.setIfInBounds i true) a' w') Q else False) : wpAnyE P md ops Q S last (fuel + 1) listed a w :=
  wpAnyE_one hi hr hg (by rwa [if_pos (show Region.wanted oi (yielded ops a.tmps) = true by simp [Region.wanted, hg])] at h)
theorem wpAnyE_done {listed : Array Bool} {a : Act} {w : World} (hr : Region.ready md ops listed = []) (h : Q .normal a w) :
    ∀ fuel, wpAnyE P md ops Q S last fuel listed a w
  | 0 => ⟨hr, h⟩
  | _ + 1 => ⟨fun _ => h, by rw [hr]; simp⟩
theorem wp_region_E {id : Nat} {a : Act} {w : World} (hm : P.follows .mixedOrders = true)
    (h : wpAnyE P .any ops Q S last ops.size (Array.replicate ops.size false) a w.drew) : (Code.region id ops true).wp P Q a w :=
  wp_region_any hm (wpAny_of_E _ _ _ _ h)
end
/-! ### Ha -/
section
variable {P : Program} {ops : Array Oper} {Q : Exit → Act → World → Prop} {md : Region.Mode} {S : World → Prop}
theorem wpAnyH_val {i : Nat} {oi : Oper} {d : Option Tmp} {v : Value} {fuel : Nat} {listed : Array Bool} {a : Act} {w : World} (hi : ops[i]? = some oi) (hd : oi.dst = d)
    (hs : Region.noSelect ops = true) (hf : Region.free md ops listed i = true) (hr : (Region.ready md ops listed).contains i = true)
    (hQ : ∀ c a w, Q (.panic c) (a.put d v) w → Q (.panic c) a w) (hy : YieldsIf P ops S oi v a) (hS : S w)
    (h : wpAnyH P md ops Q S fuel (listed.setIfInBounds i true) (a.put d v) w) : wpAnyH P md ops Q S (fuel + 1) listed a w := by
  subst hd
  exact wpAnyH_take hi hs hf hr hQ hy hS h
theorem wpAnyH_oneW {i : Nat} {oi : Oper} {fuel : Nat} {listed : Array Bool} {a : Act} {w : World} (hi : ops[i]? = some oi) (hr : Region.ready md ops listed = [i]) (hg : Region.wanted oi (yielded ops a.tmps) = true)
    (h : oi.wp P a w (fun a' w' => S w' ∧ wpAnyH P md ops Q S fuel (listed.setIfInBounds i true) a' w') Q) : wpAnyH P md ops Q S (fuel + 1) listed a w :=
  wpAnyH_all hr (by simp) fun j hj => by
    have e : j = i := by simpa using hj
    subst e
    unfold wpOp
    simp only [hi, hg, if_true]
    exact .inl h
theorem wp_region_H {id : Nat} {a : Act} {w : World} (hm : P.follows .mixedOrders = true)
    (h : wpAnyH P .any ops Q S ops.size (Array.replicate ops.size false) a w.drew) : (Code.region id ops true).wp P Q a w :=
  wp_region_held hm h
end
end Go.Proofs.Ytnidcmhfbkdioaa
