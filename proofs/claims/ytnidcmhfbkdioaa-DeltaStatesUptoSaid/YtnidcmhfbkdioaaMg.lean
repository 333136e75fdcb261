/-
  What a call has made, read through its blocks' types. Conditions: none.
-/
import Derived.Test.YtnidcmhfbkdioaaMe
namespace Go.Proofs.Ytnidcmhfbkdioaa
open Go.RowKit
set_option maxRecDepth 100000

/-- What is kept: blocks below B, and blocks whose type is not in F. -/
structure Kx (B : Nat) (F : List TypeId) (w w' : World) : Prop where
  size : w.heap.size ≤ w'.heap.size
  low : ∀ b, b < B → b < w.heap.size → w'.heap[b]? = w.heap[b]?
  ty : ∀ b t cs, Bk w b t cs → t ∉ F → Bk w' b t cs
section
variable {w w' w2 : World} {B B' : Nat} {F G : List TypeId}
theorem Kx.refl : Kx B F w w := ⟨Nat.le_refl _, fun _ _ _ => rfl, fun _ _ _ h _ => h⟩
theorem Kx.trans (h : Kx B F w w') (k : Kx B F w' w2) : Kx B F w w2 :=
  ⟨Nat.le_trans h.size k.size, fun b h1 h2 => (k.low b h1 (Nat.lt_of_lt_of_le h2 h.size)).trans (h.low b h1 h2), fun b t cs h1 h2 => k.ty b t cs (h.ty b t cs h1 h2) h2⟩
theorem Kx.mono (h : Kx B F w w') (hB : B' ≤ B) (hF : ∀ t, t ∈ F → t ∈ G) : Kx B' G w w' :=
  ⟨h.size, fun b h1 h2 => h.low b (by omega) h2, fun b t cs h1 h2 => h.ty b t cs h1 fun h3 => h2 (hF t h3)⟩
theorem Kx.of_below (h : Below w.heap.size w w') : Kx B F w w' :=
  ⟨h.size, fun b _ h2 => h.block b h2, fun _b _ _ h1 _ => h1.below h h1.lt⟩
theorem Kx.below (h : Kx B F w w') (k : Below w'.heap.size w' w2) : Kx B F w w2 := h.trans (Kx.of_below k)
theorem Kx.alloc (h : Kx B F w w') (o : Obj) : Kx B F w (w'.alloc o) := h.below ((Below.refl _ _).alloc (Nat.le_refl _) o)
theorem Kx.drewN (h : Kx B F w w') (n : Nat) : Kx B F w (w'.drewN n) := ⟨h.size, h.low, h.ty⟩
theorem Kx.drew (h : Kx B F w w') : Kx B F w w'.drew := ⟨h.size, h.low, h.ty⟩
theorem Kx.set (h : Kx B F w w') {g : Nat} {t : TypeId} {cs : Array Value} (hg : Bk w' g t cs) (hB : B ≤ g) (ht : t ∈ F) (i : Nat) (u : Value) : Kx B F w (w'.setCell ⟨g, i, none⟩ u) :=
  h.trans ⟨by simp [World.setCell], fun b h1 _ => Below.heap_setCell _ _ _ _ (by show b ≠ g; omega), fun b t' cs' h1 h2 => h1.far (fun e => by
    have e : b = g := e
    subst e
    exact Bk.ne_ h1 hg (fun e => h2 (by rw [e]; exact ht)) rfl) u⟩
theorem Kx.grown (h : Kx B F w w') {base size n : Nat} {e : TypeId} {v : Value} {xs : List Value} (ho : w'.ownsRow base e size v n xs) (hg : w'.grownBy w2 v.ownBlock) (hB : B ≤ base) (he : e ∈ F) : Kx B F w w2 :=
  h.trans ⟨hg.size, fun b h1 h2 => hg.block b h2 (fun e1 => by have := (ho.lt b e1.symm).1; omega), fun b t cs h1 h2 => h1.grown hg (fun e1 => own_ne ho h1 (fun e2 => h2 (by rw [← e2]; exact he)) e1.symm)⟩
theorem Kx.kp (h : Kx B F w w') {base g : Nat} {e t : TypeId} {cs : Array Value} (k : Kp base e g w' w2) (hg : Bk w' g t cs) (hB : B ≤ base) (hB2 : B ≤ g) (he : e ∈ F) (ht : t ∈ F) : Kx B F w w2 :=
  h.trans ⟨k.size, fun b h1 h2 => k.low b (by omega) h2 (by omega), fun b t' cs' h1 h2 => k.block b t' cs' h1 (fun e1 => by
    subst e1
    exact Bk.ne_ h1 hg (fun e2 => h2 (by rw [e2]; exact ht)) rfl) (fun e2 => h2 (by rw [e2]; exact he))⟩
theorem Kx.bk (h : Kx B F w w') {g : Nat} {t : TypeId} {cs : Array Value} (hg : Bk w g t cs) (ht : t ∉ F) : Bk w' g t cs := h.ty g t cs hg ht
theorem Kx.own (h : Kx B F w w') {base size n : Nat} {e : TypeId} {v : Value} {xs : List Value} (ho : w.ownsRow base e size v n xs) (he : e ∉ F) : w'.ownsRow base e size v n xs := by
  refine ⟨ho.1, ?_⟩
  rcases ho.2 with h1 | ⟨g, cap, cur, h1, h2, h3, h4⟩
  · exact .inl h1
  · exact .inr ⟨g, cap, cur, h1, h2, h.ty g e cur h3 he, h4⟩
end

def RdY (w : World) (B : Nat) (e : TypeId) (size : Nat) (A : Option Addr) (n : Nat) (xs : List Value) : Prop :=
  xs.length = n * size ∧ (0 < n → ∃ b o, A = some ⟨b, o, none⟩ ∧ b < w.heap.size ∧ (b < B ∨ ∃ cs, Bk w b e cs) ∧ ∀ j u, xs[j]? = some u → w.cell? ⟨b, o + j, none⟩ = some u)
section
variable {w w' : World} {B B' size n : Nat} {e : TypeId} {A : Option Addr} {xs : List Value} {F : List TypeId}
theorem RdY.rd (h : RdY w B e size A n xs) : Rd w w.heap.size size A n xs := ⟨h.1, fun hn => by
  obtain ⟨b, o, h1, h2, _, h4⟩ := h.2 hn
  exact ⟨b, o, h1, h2, h4⟩⟩
theorem RdY.more (h : RdY w B e size A n xs) (hB : B ≤ B') : RdY w B' e size A n xs := ⟨h.1, fun hn => by
  obtain ⟨b, o, h1, h2, h3, h4⟩ := h.2 hn
  exact ⟨b, o, h1, h2, h3.imp (fun h => Nat.lt_of_lt_of_le h hB) id, h4⟩⟩
theorem RdY.keep (h : RdY w B e size A n xs) (hq : Kx B F w w') (he : e ∉ F) : RdY w' B e size A n xs := ⟨h.1, fun hn => by
  obtain ⟨b, o, h1, h2, h3, h4⟩ := h.2 hn
  have hs := hq.size
  rcases h3 with h3 | ⟨cs, h3⟩
  · exact ⟨b, o, h1, by omega, .inl h3, fun j u hu => (World.cell?_of_block (w := w) (hq.low b h3 h2)).trans (h4 j u hu)⟩
  · have h5 := hq.ty b e cs h3 he
    exact ⟨b, o, h1, by omega, .inr ⟨cs, h5⟩, fun j u hu => (World.cell?_of_block (w := w) (h5.trans h3.symm)).trans (h4 j u hu)⟩⟩
theorem RdY.nil_ (A : Option Addr) : RdY w B e size A 0 [] := ⟨by simp, fun h => absurd h (by omega)⟩
theorem RdY.of_own {base c : Nat} (h : w.ownsRow base e size (.slice A n c) n xs) : RdY w B e size A n xs := by
  refine ⟨h.1, fun hn => ?_⟩
  obtain ⟨b, o, cs, h1, h2, h3⟩ := (Tr.of_own h).2 hn
  exact ⟨b, o, h1, h2.lt, .inr ⟨cs, h2⟩, fun j u hu => (h2.cell _).trans (h3 j u hu)⟩
theorem RdY.of_rd {B0 : Nat} (h : Rd w B0 size A n xs) (hB : B0 ≤ B) (hw : B0 ≤ w.heap.size) : RdY w B e size A n xs := ⟨h.1, fun hn => by
  obtain ⟨b, o, h1, h2, h4⟩ := h.2 hn
  exact ⟨b, o, h1, by omega, .inl (by omega), h4⟩⟩
theorem RdY.of_bk {g : Nat} {cs : Array Value} (h : Bk w g e cs) (hs : xs.length = n * size) (hx : ∀ (j : Nat) (u : Value), xs[j]? = some u → cs[j]? = some u) : RdY w B e size (some ⟨g, 0, none⟩) n xs :=
  ⟨hs, fun _ => ⟨g, 0, rfl, h.lt, .inr ⟨cs, h⟩, fun j u hu => (h.cell _).trans (by rw [Nat.zero_add]; exact hx j u hu)⟩⟩
theorem RdY.of_tr (h : Tr w e size A n xs) : RdY w B e size A n xs := ⟨h.1, fun hn => by
  obtain ⟨b, o, cs, h1, h2, h3⟩ := h.2 hn
  exact ⟨b, o, h1, h2.lt, .inr ⟨cs, h2⟩, fun j u hu => (h2.cell _).trans (h3 j u hu)⟩⟩
end
structure KdY (w : World) (B : Nat) (k : Kd) : Prop where
  rd : RdY w B 66 3 k.A k.n (fdCs k.fds)
  len : k.n = k.fds.length
  cap : k.n ≤ k.c
  cap2 : k.c ≤ 9223372036854775807
structure KsY (w : World) (B : Nat) (A : Option Addr) (n c : Nat) (ks : List Kd) : Prop where
  rd : RdY w B 63 2 A n (kdCs ks)
  len : n = ks.length
  cap : n ≤ c
  cap2 : c ≤ 9223372036854775807
  ok : ∀ k ∈ ks, KdY w B k
structure CmY (w : World) (B : Nat) (x : Cm) : Prop where
  rd : RdY w B 3 1 x.A x.n (x.vals.map (Value.int .i64))
  len : x.n = x.vals.length
  cap : x.n ≤ x.c
  cap2 : x.c ≤ 9223372036854775807
  wf : (Lit.int .i64 x.k).wf = true
structure CsY (w : World) (B : Nat) (A : Option Addr) (n c : Nat) (l : List Cm) : Prop where
  rd : RdY w B 166 2 A n (cmCs l)
  len : n = l.length
  cap : n ≤ c
  cap2 : c ≤ 9223372036854775807
  ok : ∀ x ∈ l, CmY w B x
structure ItY (w : World) (B : Nat) (x : It) : Prop where
  cs : CsY w B x.A x.n x.c x.cms
  wf1 : (Lit.int .i64 x.e).wf = true
  wf2 : (Lit.int .i64 x.g).wf = true
structure IsY (w : World) (B : Nat) (A : Option Addr) (n c : Nat) (l : List It) : Prop where
  rd : RdY w B 147 3 A n (itCs l)
  len : n = l.length
  cap : n ≤ c
  cap2 : c ≤ 9223372036854775807
  ok : ∀ x ∈ l, ItY w B x
structure GsY (w : World) (B : Nat) (A : Option Addr) (n c : Nat) (l : List Int) : Prop where
  rd : RdY w B 3 1 A n (l.map (Value.int .i64))
  len : n = l.length
  cap : n ≤ c
  cap2 : c ≤ 9223372036854775807
  wf : ∀ g ∈ l, (Lit.int .i64 g).wf = true
structure WdY (w : World) (B : Nat) (x : Wd) : Prop where
  ks : KsY w B x.kA x.kn x.kc x.ks
  gs : GsY w B x.gA x.gn x.gc x.gens
  its : IsY w B x.iA x.im x.ic x.its
section
variable {w w' : World} {B B' n c : Nat} {A : Option Addr} {F : List TypeId}
theorem KdY.keep {k : Kd} (h : KdY w B k) (hq : Kx B F w w') (h66 : (66 : TypeId) ∉ F) : KdY w' B k := ⟨h.rd.keep hq h66, h.len, h.cap, h.cap2⟩
theorem KsY.keep {l : List Kd} (h : KsY w B A n c l) (hq : Kx B F w w') (h66 : (66 : TypeId) ∉ F) (h63 : (63 : TypeId) ∉ F) : KsY w' B A n c l := ⟨h.rd.keep hq h63, h.len, h.cap, h.cap2, fun x hx => (h.ok x hx).keep hq h66⟩
theorem CmY.keep {x : Cm} (h : CmY w B x) (hq : Kx B F w w') (h3 : (3 : TypeId) ∉ F) : CmY w' B x := ⟨h.rd.keep hq h3, h.len, h.cap, h.cap2, h.wf⟩
theorem CsY.keep {l : List Cm} (h : CsY w B A n c l) (hq : Kx B F w w') (h3 : (3 : TypeId) ∉ F) (h166 : (166 : TypeId) ∉ F) : CsY w' B A n c l := ⟨h.rd.keep hq h166, h.len, h.cap, h.cap2, fun x hx => (h.ok x hx).keep hq h3⟩
theorem ItY.keep {x : It} (h : ItY w B x) (hq : Kx B F w w') (h3 : (3 : TypeId) ∉ F) (h166 : (166 : TypeId) ∉ F) : ItY w' B x := ⟨h.cs.keep hq h3 h166, h.wf1, h.wf2⟩
theorem IsY.keep {l : List It} (h : IsY w B A n c l) (hq : Kx B F w w') (h3 : (3 : TypeId) ∉ F) (h166 : (166 : TypeId) ∉ F) (h147 : (147 : TypeId) ∉ F) : IsY w' B A n c l := ⟨h.rd.keep hq h147, h.len, h.cap, h.cap2, fun x hx => (h.ok x hx).keep hq h3 h166⟩
theorem GsY.keep {l : List Int} (h : GsY w B A n c l) (hq : Kx B F w w') (h3 : (3 : TypeId) ∉ F) : GsY w' B A n c l := ⟨h.rd.keep hq h3, h.len, h.cap, h.cap2, h.wf⟩
theorem WdY.keep {x : Wd} (h : WdY w B x) (hq : Kx B F w w') (h3 : (3 : TypeId) ∉ F) (h166 : (166 : TypeId) ∉ F) (h147 : (147 : TypeId) ∉ F) (h66 : (66 : TypeId) ∉ F) (h63 : (63 : TypeId) ∉ F) : WdY w' B x := ⟨h.ks.keep hq h66 h63, h.gs.keep hq h3, h.its.keep hq h3 h166 h147⟩
theorem KsY.ok_ {l : List Kd} (h : KsY w B A n c l) : KsOk w w.heap.size A n c l := ⟨h.rd.rd, h.len, h.cap, h.cap2, fun x hx => ⟨(h.ok x hx).rd.rd, (h.ok x hx).len, (h.ok x hx).cap, (h.ok x hx).cap2⟩, Nat.le_refl _⟩
theorem CmY.ok_ {x : Cm} (h : CmY w B x) : CmOk w w.heap.size x := ⟨h.rd.rd, h.len, h.cap, h.cap2, h.wf⟩
theorem CsY.ok_ {l : List Cm} (h : CsY w B A n c l) : CsOk w w.heap.size A n c l := ⟨h.rd.rd, h.len, h.cap, h.cap2, fun x hx => (h.ok x hx).ok_, Nat.le_refl _⟩
theorem ItY.ok_ {x : It} (h : ItY w B x) : ItOk w w.heap.size x := ⟨h.cs.ok_, h.wf1, h.wf2⟩
theorem IsY.ok_ {l : List It} (h : IsY w B A n c l) : IsOk w w.heap.size A n c l := ⟨h.rd.rd, h.len, h.cap, h.cap2, fun x hx => (h.ok x hx).ok_, Nat.le_refl _⟩
theorem GsY.ok_ {l : List Int} (h : GsY w B A n c l) : GsOk w w.heap.size A n c l := ⟨h.rd.rd, h.len, h.cap, h.cap2, h.wf, Nat.le_refl _⟩
theorem WdY.ok_ {x : Wd} (h : WdY w B x) : WdOk w w.heap.size x := ⟨h.ks.ok_, h.gs.ok_, h.its.ok_⟩
theorem KdY.of_ok {B0 : Nat} {k : Kd} (h : KdOk w B0 k) (hB : B0 ≤ B) (hw : B0 ≤ w.heap.size) : KdY w B k := ⟨.of_rd h.rd hB hw, h.len, h.cap, h.cap2⟩
theorem KsY.of_ok {B0 : Nat} {l : List Kd} (h : KsOk w B0 A n c l) (hB : B0 ≤ B) : KsY w B A n c l := ⟨.of_rd h.rd hB h.lo, h.len, h.cap, h.cap2, fun x hx => .of_ok (h.ok x hx) hB h.lo⟩
theorem CmY.of_ok {B0 : Nat} {x : Cm} (h : CmOk w B0 x) (hB : B0 ≤ B) (hw : B0 ≤ w.heap.size) : CmY w B x := ⟨.of_rd h.rd hB hw, h.len, h.cap, h.cap2, h.wf⟩
theorem CsY.of_ok {B0 : Nat} {l : List Cm} (h : CsOk w B0 A n c l) (hB : B0 ≤ B) : CsY w B A n c l := ⟨.of_rd h.rd hB h.lo, h.len, h.cap, h.cap2, fun x hx => .of_ok (h.ok x hx) hB h.lo⟩
theorem ItY.of_ok {B0 : Nat} {x : It} (h : ItOk w B0 x) (hB : B0 ≤ B) : ItY w B x := ⟨.of_ok h.cs hB, h.wf1, h.wf2⟩
theorem KsY.more {l : List Kd} (h : KsY w B A n c l) (hB : B ≤ B') : KsY w B' A n c l := ⟨h.rd.more hB, h.len, h.cap, h.cap2, fun x hx => ⟨(h.ok x hx).rd.more hB, (h.ok x hx).len, (h.ok x hx).cap, (h.ok x hx).cap2⟩⟩
theorem CmY.more {x : Cm} (h : CmY w B x) (hB : B ≤ B') : CmY w B' x := ⟨h.rd.more hB, h.len, h.cap, h.cap2, h.wf⟩
theorem CsY.more {l : List Cm} (h : CsY w B A n c l) (hB : B ≤ B') : CsY w B' A n c l := ⟨h.rd.more hB, h.len, h.cap, h.cap2, fun x hx => (h.ok x hx).more hB⟩
theorem ItY.more {x : It} (h : ItY w B x) (hB : B ≤ B') : ItY w B' x := ⟨h.cs.more hB, h.wf1, h.wf2⟩
theorem IsY.more {l : List It} (h : IsY w B A n c l) (hB : B ≤ B') : IsY w B' A n c l := ⟨h.rd.more hB, h.len, h.cap, h.cap2, fun x hx => (h.ok x hx).more hB⟩
theorem GsY.more {l : List Int} (h : GsY w B A n c l) (hB : B ≤ B') : GsY w B' A n c l := ⟨h.rd.more hB, h.len, h.cap, h.cap2, h.wf⟩
theorem WdY.more {x : Wd} (h : WdY w B x) (hB : B ≤ B') : WdY w B' x := ⟨h.ks.more hB, h.gs.more hB, h.its.more hB⟩
end

/-! ### Rows that are filled in order -/
theorem take_set2 {xs : List Value} {k : Nat} (u v : Value) (h : (k + 1) * 2 ≤ xs.length) : ((xs.set (k * 2) u).set (k * 2 + 1) v).take ((k + 1) * 2) = xs.take (k * 2) ++ [u, v] := by
  apply List.ext_getElem?
  intro i
  rw [List.getElem?_take, List.getElem?_append, List.length_take, List.getElem?_take]
  simp only [List.getElem?_set, List.length_set]
  by_cases h1 : i < k * 2
  · rw [if_pos (by omega), if_neg (by omega), if_neg (by omega), if_pos (by omega), if_pos h1]
  · by_cases h2 : i = k * 2
    · subst h2
      rw [if_pos (by omega), if_neg (by omega), if_pos rfl, if_pos (by omega), if_neg (by omega), show k * 2 - min (k * 2) xs.length = 0 by omega]; rfl
    · by_cases h3 : i = k * 2 + 1
      · subst h3
        rw [if_pos (by omega), if_pos rfl, if_pos (by omega), if_neg (by omega), show k * 2 + 1 - min (k * 2) xs.length = 1 by omega]; rfl
      · rw [if_neg (by omega), if_neg (by omega), List.getElem?_eq_none (by simp; omega)]
theorem take_set3 {xs : List Value} {k : Nat} (u v z : Value) (h : (k + 1) * 3 ≤ xs.length) : (((xs.set (k * 3) u).set (k * 3 + 1) v).set (k * 3 + 2) z).take ((k + 1) * 3) = xs.take (k * 3) ++ [u, v, z] := by
  apply List.ext_getElem?
  intro i
  rw [List.getElem?_take, List.getElem?_append, List.length_take, List.getElem?_take]
  simp only [List.getElem?_set, List.length_set]
  by_cases h1 : i < k * 3
  · rw [if_pos (by omega), if_neg (by omega), if_neg (by omega), if_neg (by omega), if_pos (by omega), if_pos h1]
  · by_cases h2 : i = k * 3
    · subst h2
      rw [if_pos (by omega), if_neg (by omega), if_neg (by omega), if_pos rfl, if_pos (by omega), if_neg (by omega), show k * 3 - min (k * 3) xs.length = 0 by omega]; rfl
    · by_cases h3 : i = k * 3 + 1
      · subst h3
        rw [if_pos (by omega), if_neg (by omega), if_pos rfl, if_pos (by omega), if_neg (by omega), show k * 3 + 1 - min (k * 3) xs.length = 1 by omega]; rfl
      · by_cases h4 : i = k * 3 + 2
        · subst h4
          rw [if_pos (by omega), if_pos rfl, if_pos (by omega), if_neg (by omega), show k * 3 + 2 - min (k * 3) xs.length = 2 by omega]; rfl
        · rw [if_neg (by omega), if_neg (by omega), List.getElem?_eq_none (by simp; omega)]
end Go.Proofs.Ytnidcmhfbkdioaa
