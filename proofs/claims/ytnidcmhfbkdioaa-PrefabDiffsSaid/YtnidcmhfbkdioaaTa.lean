/-
  What tourref4.Construct makes, in memory; CopyComps; the loops of Construct over parts, and over one component. Conditions: what is read can be read.
-/
import Derived.Test.YtnidcmhfbkdioaaRf
import Derived.StillTailTactics
import Derived.BigQuiet
namespace Go.Proofs.Ytnidcmhfbkdioaa
open Go.RowKit
set_option maxRecDepth 100000

/-! ### Sa -/
/-- The block of a row. -/
def rowB : Option Addr → List Nat
  | some a => [a.block]
  | none => []
def cmB (l : List Cm) : List Nat := l.flatMap fun c => rowB c.A
def btB (b : Bt) : List Nat := rowB b.pA ++ cmB b.cms
def bsB (l : List Bt) : List Nat := l.flatMap btB
def Nd (l : List Nat) : Prop := l.Pairwise fun a b => a ≠ b
theorem Nd.nil : Nd [] := List.Pairwise.nil
theorem Nd.app {l r : List Nat} (h : Nd l) (k : Nd r) (hd : ∀ a ∈ l, ∀ b ∈ r, a ≠ b) : Nd (l ++ r) := List.pairwise_append.2 ⟨h, k, hd⟩
theorem nd_flat {α : Type} {f : α → List Nat} {l : List α} (h : Nd (l.flatMap f)) : (∀ a ∈ l, Nd (f a)) ∧ l.Pairwise fun a b => ∀ x ∈ f a, ∀ y ∈ f b, x ≠ y := List.pairwise_flatMap.1 h
/-- Blocks of two different elements differ. -/
theorem nd_apart {α : Type} {f : α → List Nat} {l : List α} (h : Nd (l.flatMap f)) {i j : Nat} {x y : α} (hi : l[i]? = some x) (hj : l[j]? = some y) (hij : i ≠ j) {g : Nat} (hx : g ∈ f x) : g ∉ f y := by
  have h2 := (nd_flat h).2
  obtain ⟨p, rfl⟩ := List.getElem?_eq_some_iff.1 hi
  obtain ⟨q, rfl⟩ := List.getElem?_eq_some_iff.1 hj
  intro hy
  rcases Nat.lt_or_ge i j with hlt | hge
  · exact List.pairwise_iff_getElem.1 h2 i j p q hlt g hx g hy rfl
  · exact List.pairwise_iff_getElem.1 h2 j i q p (by omega) g hy g hx rfl
theorem flatMap_set {α β : Type} {f : α → List β} : ∀ {l : List α} {i : Nat} {x y : α}, l[i]? = some x → f y = f x → (l.set i y).flatMap f = l.flatMap f
  | [], _, _, _, h, _ => by simp at h
  | a :: r, 0, x, y, h, e => by
    have e1 : a = x := by simpa using h
    rw [List.set_cons_zero, List.flatMap_cons, List.flatMap_cons, e, e1]
  | a :: r, i + 1, x, y, h, e => by rw [List.set_cons_succ, List.flatMap_cons, List.flatMap_cons, flatMap_set (by simpa using h) e]
structure CcY (w : World) (base : Nat) (c : Cm) : Prop where
  own : w.ownsRow base 3 1 (.slice c.A c.n c.c) c.n (c.vals.map (Value.int .i64))
  len : c.n = c.vals.length
  wf : (Lit.int .i64 c.k).wf = true
/-- An entity whose path and values lie in rows of their own. -/
structure CtY (w : World) (base : Nat) (x : Bt) : Prop where
  pth : w.ownsRow base 3 1 (.slice x.pA x.pn x.pc) x.pn (x.path.map (Value.int .i64))
  plen : x.pn = x.path.length
  crd : RdY w 0 166 2 x.cA x.cn (cmCs x.cms)
  clen : x.cn = x.cms.length
  ccap : x.cn ≤ x.cc
  ccap2 : x.cc ≤ 9223372036854775807
  vals : ∀ c ∈ x.cms, CcY w base c
structure CnI (w : World) (base : Nat) (ks : List Kd) (A : Option Addr) (m c : Nat) (l : List Bt) : Prop where
  own : w.ownsRow base 40 2 (.slice A m c) m (btCs l)
  len : m = l.length
  ok : ∀ x ∈ l, CtY w base x
  nd : Nd (bsB l)
  kok : KOkB ks l
theorem CcY.keep {w w' : World} {base : Nat} {c : Cm} {F : List TypeId} (h : CcY w base c) (hq : Kx 0 F w w') (h3 : (3 : TypeId) ∉ F) : CcY w' base c := ⟨hq.own h.own h3, h.len, h.wf⟩
theorem CtY.keep {w w' : World} {base : Nat} {x : Bt} {F : List TypeId} (h : CtY w base x) (hq : Kx 0 F w w') (h3 : (3 : TypeId) ∉ F) (h166 : (166 : TypeId) ∉ F) : CtY w' base x :=
  ⟨hq.own h.pth h3, h.plen, h.crd.keep hq h166, h.clen, h.ccap, h.ccap2, fun c hc => (h.vals c hc).keep hq h3⟩
theorem CnI.keep {w w' : World} {base m c : Nat} {ks : List Kd} {A : Option Addr} {l : List Bt} {F : List TypeId} (h : CnI w base ks A m c l) (hq : Kx 0 F w w') (h3 : (3 : TypeId) ∉ F) (h166 : (166 : TypeId) ∉ F) (h40 : (40 : TypeId) ∉ F) : CnI w' base ks A m c l :=
  ⟨hq.own h.own h40, h.len, fun x hx => (h.ok x hx).keep hq h3 h166, h.nd, h.kok⟩
theorem CnI.keepB {w w' : World} {base m c : Nat} {ks : List Kd} {A : Option Addr} {l : List Bt} (h : CnI w base ks A m c l) (hb : Below w.heap.size w w') : CnI w' base ks A m c l := h.keep (F := []) (Kx.of_below hb) (by simp) (by simp) (by simp)
theorem CcY.lower {w : World} {base base' : Nat} {c : Cm} (h : CcY w base c) (hb : base' ≤ base) : CcY w base' c := ⟨own_monoP h.own hb, h.len, h.wf⟩
theorem CtY.lower {w : World} {base base' : Nat} {x : Bt} (h : CtY w base x) (hb : base' ≤ base) : CtY w base' x := ⟨own_monoP h.pth hb, h.plen, h.crd, h.clen, h.ccap, h.ccap2, fun c hc => (h.vals c hc).lower hb⟩
theorem CnI.lower {w : World} {base base' m c : Nat} {ks : List Kd} {A : Option Addr} {l : List Bt} (h : CnI w base ks A m c l) (hb : base' ≤ base) : CnI w base' ks A m c l := ⟨own_monoP h.own hb, h.len, fun x hx => (h.ok x hx).lower hb, h.nd, h.kok⟩
theorem CtY.okB {w : World} {base : Nat} {x : Bt} (h : CtY w base x) : BtOk w w.heap.size x := by
  have hp := own_cap2 h.pth
  exact ⟨Rd.of_own h.pth, h.plen, hp.1, hp.2, ⟨h.crd.rd, h.clen, h.ccap, h.ccap2, fun c hc => by
    have h1 := (h.vals c hc)
    have hp1 := own_cap2 h1.own
    exact ⟨Rd.of_own h1.own, h1.len, hp1.1, hp1.2, h1.wf⟩, Nat.le_refl _⟩⟩
theorem CnI.okB {w : World} {base m c : Nat} {ks : List Kd} {A : Option Addr} {l : List Bt} (h : CnI w base ks A m c l) : BsOk w w.heap.size A m c l :=
  ⟨Rd.of_own h.own, h.len, (own_cap2 h.own).1, (own_cap2 h.own).2, fun x hx => (h.ok x hx).okB, Nat.le_refl _⟩
/-- The blocks of an entity lie from the base on, within the heap. -/
theorem own_blk {w : World} {base e n c : Nat} {A : Option Addr} {xs : List Value} (h : w.ownsRow base e 1 (.slice A n c) n xs) {g : Nat} (hg : g ∈ rowB A) : base ≤ g ∧ g < w.heap.size ∧ (Value.slice A n c).ownBlock = some g := by
  cases A with
  | none => cases hg
  | some a =>
    have e : g = a.block := by simpa [rowB] using hg
    subst e
    exact ⟨(h.lt _ rfl).1, (h.lt _ rfl).2, rfl⟩
theorem CtY.blk {w : World} {base : Nat} {x : Bt} (h : CtY w base x) {g : Nat} (hg : g ∈ btB x) : base ≤ g ∧ g < w.heap.size := by
  rcases List.mem_append.1 hg with hg | hg
  · exact ⟨(own_blk h.pth hg).1, (own_blk h.pth hg).2.1⟩
  · obtain ⟨c, hc, hg⟩ := List.mem_flatMap.1 hg
    exact ⟨(own_blk (h.vals c hc).own hg).1, (own_blk (h.vals c hc).own hg).2.1⟩
theorem own_notB {w : World} {base e n c g : Nat} {A : Option Addr} {xs : List Value} (h : w.ownsRow base e 1 (.slice A n c) n xs) (hg : g ∉ rowB A) (k : Nat) (u : Value) : (w.setCell ⟨g, k, none⟩ u).ownsRow base e 1 (.slice A n c) n xs :=
  own_keepB h fun g' hg' => Below.heap_setCell _ _ _ _ (by
    show g' ≠ g
    rintro rfl
    cases A with
    | none => cases hg'
    | some a => exact hg (by simpa [rowB, Value.ownBlock] using hg'.symm))
/-- A value is stored in place. -/
theorem CnI.store {w : World} {base m c : Nat} {ks : List Kd} {A : Option Addr} {l : List Bt} (h : CnI w base ks A m c l) {i j : Nat} {x : Bt} {cm : Cm} (hx : l[i]? = some x) (hc : x.cms[j]? = some cm) {F : Nat} (hF : F < cm.vals.length) (V : Int) :
    ∃ g, cm.A = some ⟨g, 0, none⟩ ∧ base ≤ g ∧ g < w.heap.size ∧ (∃ cs, Bk w g 3 cs ∧ F < cs.size) ∧ CnI (w.setCell ⟨g, F, none⟩ (.int .i64 V)) base ks A m c (l.set i { x with cms := x.cms.set j { cm with vals := cm.vals.set F V } }) := by
  have hxm := List.mem_of_getElem? hx
  have hcm := List.mem_of_getElem? hc
  have hcy := (h.ok x hxm).vals cm hcm
  have hnp : 0 < cm.n := by have := hcy.len; omega
  obtain ⟨g, cap, hv, hb0, hlt⟩ := hcy.own.form hnp
  have hA : cm.A = some ⟨g, 0, none⟩ := by injection hv
  have hgm : g ∈ rowB cm.A := by rw [hA]; simp [rowB]
  have hgc : g ∈ cmB x.cms := List.mem_flatMap.2 ⟨cm, hcm, hgm⟩
  obtain ⟨cs, hbk⟩ := own_ty hcy.own (g := g) (by rw [hA]; rfl)
  have hxnd := (nd_flat h.nd).1 x hxm
  have hxnd2 := List.pairwise_append.1 (show Nd (rowB x.pA ++ cmB x.cms) from hxnd)
  have hk : Kx 0 [3] w (w.setCell ⟨g, F, none⟩ (.int .i64 V)) := (Kx.refl (B := 0)).set hbk (Nat.zero_le _) (by simp) F _
  have hsz : F < cs.size := by
    rcases hcy.own.2 with ⟨hv9, h0⟩ | ⟨g', cap', cur, hv9, _, hh, h5, _, h7, _⟩
    · omega
    · rw [hA] at hv9
      injection hv9 with h1 _ _
      injection h1 with h1
      injection h1 with h1 _ _
      subst h1
      have e : cs = cur := by
        have h2 : w.heap[g]? = some (.cells cur 3 (0, 0)) := hh
        have h3 : w.heap[g]? = some (.cells cs 3 (0, 0)) := hbk
        rw [h3] at h2
        injection h2 with h2
        injection h2 with h2
      rw [e, h7]
      have := hcy.len
      omega
  refine ⟨g, hA, hb0, hlt, ⟨cs, hbk, hsz⟩, ?_⟩
  have hset : ∀ y ∈ l.set i { x with cms := x.cms.set j { cm with vals := cm.vals.set F V } }, (∃ i', i' ≠ i ∧ l[i']? = some y) ∨ y = { x with cms := x.cms.set j { cm with vals := cm.vals.set F V } } := fun y hy => by
    obtain ⟨p, hp⟩ := List.mem_iff_getElem?.1 hy
    by_cases hpi : p = i
    · subst hpi
      rw [List.getElem?_set_self (List.getElem?_eq_some_iff.1 hx).1] at hp
      exact .inr (by simpa using hp.symm)
    · rw [List.getElem?_set_ne (Ne.symm hpi)] at hp
      exact .inl ⟨p, hpi, hp⟩
  have hcset : ∀ d ∈ x.cms.set j { cm with vals := cm.vals.set F V }, (∃ j', j' ≠ j ∧ x.cms[j']? = some d) ∨ d = { cm with vals := cm.vals.set F V } := fun d hd => by
    obtain ⟨p, hp⟩ := List.mem_iff_getElem?.1 hd
    by_cases hpi : p = j
    · subst hpi
      rw [List.getElem?_set_self (List.getElem?_eq_some_iff.1 hc).1] at hp
      exact .inr (by simpa using hp.symm)
    · rw [List.getElem?_set_ne (Ne.symm hpi)] at hp
      exact .inl ⟨p, hpi, hp⟩
  have hcmB : cmB (x.cms.set j { cm with vals := cm.vals.set F V }) = cmB x.cms := flatMap_set hc rfl
  have hbsB : bsB (l.set i { x with cms := x.cms.set j { cm with vals := cm.vals.set F V } }) = bsB l := flatMap_set hx (by unfold btB; rw [hcmB])
  refine ⟨?_, by rw [List.length_set]; exact h.len, fun y hy => ?_, by rw [hbsB]; exact h.nd, fun y hy d hd => ?_⟩
  · rw [show btCs (l.set i { x with cms := x.cms.set j { cm with vals := cm.vals.set F V } }) = btCs l from btCs_set hx rfl]
    exact hk.own h.own (by decide)
  · rcases hset y hy with ⟨p, hpi, hp⟩ | rfl
    · have hyo := h.ok y (List.mem_of_getElem? hp)
      have hgn : g ∉ btB y := nd_apart h.nd hx hp (Ne.symm hpi) (List.mem_append.2 (.inr hgc))
      refine ⟨own_notB hyo.pth (fun hg => hgn (List.mem_append.2 (.inl hg))) _ _, hyo.plen, hyo.crd.keep hk (by decide), hyo.clen, hyo.ccap, hyo.ccap2, fun d hd => ?_⟩
      have hdo := hyo.vals d hd
      exact ⟨own_notB hdo.own (fun hg => hgn (List.mem_append.2 (.inr (List.mem_flatMap.2 ⟨d, hd, hg⟩)))) _ _, hdo.len, hdo.wf⟩
    · have hxo := h.ok x hxm
      refine ⟨own_notB hxo.pth (fun hg => hxnd2.2.2 g hg g hgc rfl) _ _, hxo.plen, ?_, by rw [List.length_set]; exact hxo.clen, hxo.ccap, hxo.ccap2, fun d hd => ?_⟩
      · rw [show cmCs (x.cms.set j { cm with vals := cm.vals.set F V }) = cmCs x.cms from flatMap_set hc rfl]
        exact hxo.crd.keep hk (by decide)
      · rcases hcset d hd with ⟨p, hpj, hp⟩ | rfl
        · have hdo := hxo.vals d (List.mem_of_getElem? hp)
          exact ⟨own_notB hdo.own (nd_apart (f := fun c : Cm => rowB c.A) (l := x.cms) hxnd2.2.1 hc hp (Ne.symm hpj) hgm) _ _, hdo.len, hdo.wf⟩
        · refine ⟨?_, by rw [List.length_set]; exact hcy.len, hcy.wf⟩
          have ho := hcy.own
          rw [hA] at ho ⊢
          have h1 := own_setJ ho (j := F) (by have := hcy.len; omega) (.int .i64 V)
          rw [List.map_set]
          exact h1
  · rcases hset y hy with ⟨p, _, hp⟩ | rfl
    · exact h.kok y (List.mem_of_getElem? hp) d hd
    · rcases hcset d hd with ⟨p, _, hp⟩ | rfl
      · exact h.kok x hxm d (List.mem_of_getElem? hp)
      · exact h.kok x hxm cm hcm

/-! ### Sb -/
/-- Components that were copied. -/
structure CpI (w : World) (base : Nat) (A : Option Addr) (n c : Nat) (l1 l : List Cm) : Prop where
  own : w.ownsRow base 166 2 (.slice A n c) n (cmCs l1)
  p : l1.map Cm.p = l.map Cm.p
  n : l1.map Cm.n = l.map Cm.n
  ok : ∀ d ∈ l1, CcY w base d
  nd : Nd (cmB l1)

set_option maxHeartbeats 4000000 in
theorem ccopyR_any {w : World} {B n c : Nat} {A : Option Addr} {l : List Cm} (hc : CsOk w B A n c l) (hn : n ≤ 1000) (hsz : ∀ cm ∈ l, cm.n ≤ 1048576) :
    Calls Try.prog 157 #[.slice A n c] w fun e w' => ∃ (A' : Option Addr) (c' : Nat) (l1 : List Cm), e = .returned (.slice A' n c') ∧ Hid (CpI w' w.heap.size A' n c' l1 l) ∧ Below w.heap.size w w' := by
  obtain ⟨i1, hi1, hz10, hz11, hz12⟩ := info_parts T.infoCm
  have hcap := hc.cap
  have hcap2 := hc.cap2
  have hB := hc.lo
  have HC := Lib.hid hc
  have HSZ := Lib.hid hsz
  clear hc hsz
  go_enter Try.func157, Try.ntmps157
  go_wp2_with fail
  go_loopw [3, 8] (fun av iv wx => ∃ (i oc : Nat) (OA : Option Addr), i ≤ n ∧ iv = .int .i64 i ∧ av = .slice OA i oc ∧ Hid (Below w.heap.size w wx ∧ ∃ l1, CpI wx w.heap.size OA i oc l1 (l.take i))) (fun _ iv _ => n - (intOf iv).toNat)
  case atStart => exact ⟨0, 0, none, Nat.zero_le _, rfl, rfl, Lib.hid ⟨Below.refl _ _, [], World.ownsRow_nil _ _ _ _, rfl, rfl, (fun d hd => by cases hd), Nd.nil⟩⟩
  case round =>
    obtain ⟨i, oc, OA, hi, rfl, rfl, HI⟩ := hrel
    obtain ⟨hbw, l1, hI⟩ := HI.out
    by_cases hlt : i < n
    · obtain ⟨x, hx⟩ : ∃ x, l[i]? = some x := ⟨_, List.getElem?_eq_getElem (by have := HC.out.len; omega)⟩
      have hcw := HC.out.below (hbw.mono hB)
      obtain ⟨b, o, rfl, hbb, q0, q1⟩ := hcw.rd.cm hlt hx
      have hxo := hcw.ok x (List.mem_of_getElem? hx)
      have hxs := HSZ.out x (List.mem_of_getElem? hx)
      have hiz : (i : Int) < n := by omega
      have hiz0 : (0 : Int) ≤ i := by omega
      obtain ⟨W1, hW1⟩ : ∃ W1, W1 = wr.alloc (.cells #[.int .i64 x.k, .slice x.A x.n x.c] 166) := ⟨_, rfl⟩
      obtain ⟨hh, hhe⟩ : ∃ hh, hh = wr.heap.size := ⟨_, rfl⟩
      have hb1 : Below wr.heap.size wr W1 := by rw [hW1]; exact (Below.refl _ _).alloc (Nat.le_refl _) _
      have HH : Hid (Bk W1 hh 166 #[.int .i64 x.k, .slice x.A x.n x.c]) := Lib.hid (by rw [hW1, hhe]; exact Bk.new _ _ _)
      have HOW : Hid (W1.ownsRow w.heap.size 166 2 (.slice OA i oc) i (cmCs l1)) := Lib.hid ((Kx.of_below (B := 0) (F := []) hb1).own hI.own (by simp))
      have HBW : Hid (Below w.heap.size w W1) := Lib.hid (hbw.trans (hb1.mono hbw.size))
      have hwW : w.heap.size ≤ W1.heap.size := HBW.out.size
      have HCL : Hid (∀ wx, Below W1.heap.size W1 wx → Calls Try.prog 103 #[.slice x.A x.n x.c] wx (RetS wx 3 1 x.n (x.vals.map (Value.int .i64)))) := Lib.hid fun wx hb => cloneInts_any x.A x.n x.c B (x.vals.map (Value.int .i64)) wx ((hxo.rd.below (hb1.mono (Nat.le_trans hB hbw.size))).below (hb.mono (by omega))) (by intro u hu; obtain ⟨z, _, rfl⟩ := List.mem_map.1 hu; rfl) (by have := hb.size; omega) (by omega)
      have HI1 : Hid (CpI W1 w.heap.size OA i oc l1 (l.take i)) := Lib.hid ⟨HOW.out, hI.p, hI.n, fun d hd => (hI.ok d hd).keep (F := []) (Kx.of_below hb1) (by simp), hI.nd⟩
      have HX := Lib.hid (And.intro hx hxo)
      have HHZ : Hid (hh = wr.heap.size ∧ True) := Lib.hid ⟨hhe, trivial⟩
      have HOB : Hid (∀ d ∈ l1, ∀ g ∈ rowB d.A, g < W1.heap.size) := Lib.hid fun d hd g hg => by have := (own_blk (hI.ok d hd).own hg).2.1; have := hb1.size; omega
      have HW1 := Lib.hid (And.intro hW1 hhe)
      have HHL : Hid (∀ q, some q = (Value.slice OA i oc).ownBlock → q < hh) := Lib.hid fun q hq => by rw [hhe]; exact (hI.own.lt q hq.symm).2
      clear hx hcw hbb hxo hb1 hbw hI HI hW1 hhe
      generalize hxk : x.k = xk at *
      generalize hxA : x.A = xA at *
      generalize hxn : x.n = xn at *
      generalize hxc : x.c = xc at *
      have HXV := Lib.hid (And.intro hxk (And.intro hxA (And.intro hxn hxc)))
      clear hxk hxA hxn hxc
      go_upto_region 5 with fail
      rw [← HW1.out.1, ← HW1.out.2]
      clear q0 q1
      have s1 : W1.drew.cell? ⟨hh, 0, none⟩ = some (.int .i64 xk) ∧ W1.drew.cell? ⟨hh, 1, none⟩ = some (.slice xA xn xc) := ⟨HH.out.cell 0, HH.out.cell 1⟩
      refine wp_region_noPanic ?_
      refine wp_region_E (S := fun wx => wx.cell? ⟨hh, 0, none⟩ = some (.int .i64 xk) ∧ wx.cell? ⟨hh, 1, none⟩ = some (.slice xA xn xc)) (last := 9) (by kernel_rfl) ?_
      refine wpAnyE_val (i := 0) (v := .slice OA i oc) (d := some 12) rfl rfl (by kernel_rfl) (by kernel_rfl) (by kernel_rfl) (by kernel_rfl) (fun _ _ _ h => h) (Or.inl ⟨by rfl, fun w hS => by (obtain ⟨h0, h1⟩ := hS; go_simp)⟩) s1 ?_
      (try simp only [Act.put, List.setIfInBounds_toArray, List.set_cons_zero, List.set_cons_succ])
      refine wpAnyE_val (i := 1) (v := .pointer (some ⟨hh, 0, none⟩)) (d := some 13) rfl rfl (by kernel_rfl) (by kernel_rfl) (by kernel_rfl) (by kernel_rfl) (fun _ _ _ h => h) (Or.inl ⟨by rfl, fun w hS => by (obtain ⟨h0, h1⟩ := hS; go_simp)⟩) s1 ?_
      (try simp only [Act.put, List.setIfInBounds_toArray, List.set_cons_zero, List.set_cons_succ])
      refine wpAnyE_val (i := 2) (v := .int .i64 xk) (d := some 14) rfl rfl (by kernel_rfl) (by kernel_rfl) (by kernel_rfl) (by kernel_rfl) (fun _ _ _ h => h) (Or.inl ⟨by rfl, fun w hS => by (obtain ⟨h0, h1⟩ := hS; go_simp)⟩) s1 ?_
      (try simp only [Act.put, List.setIfInBounds_toArray, List.set_cons_zero, List.set_cons_succ])
      refine wpAnyE_val (i := 3) (v := .pointer (some ⟨hh, 1, none⟩)) (d := some 15) rfl rfl (by kernel_rfl) (by kernel_rfl) (by kernel_rfl) (by kernel_rfl) (fun _ _ _ h => h) (Or.inl ⟨by rfl, fun w hS => by (obtain ⟨h0, h1⟩ := hS; go_simp)⟩) s1 ?_
      (try simp only [Act.put, List.setIfInBounds_toArray, List.set_cons_zero, List.set_cons_succ])
      refine wpAnyE_val (i := 4) (v := .slice xA xn xc) (d := some 16) rfl rfl (by kernel_rfl) (by kernel_rfl) (by kernel_rfl) (by kernel_rfl) (fun _ _ _ h => h) (Or.inl ⟨by rfl, fun w hS => by (obtain ⟨h0, h1⟩ := hS; go_simp)⟩) s1 ?_
      (try simp only [Act.put, List.setIfInBounds_toArray, List.set_cons_zero, List.set_cons_succ])
      refine wpAnyE_one (i := 5) rfl (by kernel_rfl) rfl ?_
      go_simp
      (with_reducible refine (HCL.out W1.drew (Below.refl _ _).drew).mono ?_)
      rintro e w6 ⟨A6, c6, rfl, hown6, hb6⟩
      have hb16 : Below W1.heap.size W1 w6 := ⟨hb6.os, hb6.tape, hb6.output, hb6.size, hb6.block⟩
      have HB6 := Lib.hid hb16
      have HO6 : Hid (w6.ownsRow W1.heap.size 3 1 (.slice A6 xn c6) xn (x.vals.map (Value.int .i64))) := Lib.hid hown6
      have hh6 : Bk w6 hh 166 #[.int .i64 xk, .slice xA xn xc] := HH.out.below hb16 HH.out.lt
      have s6 : w6.cell? ⟨hh, 0, none⟩ = some (.int .i64 xk) ∧ w6.cell? ⟨hh, 1, none⟩ = some (.slice xA xn xc) := ⟨hh6.cell 0, hh6.cell 1⟩
      have how6 : w6.ownsRow w.heap.size 166 2 (.slice OA i oc) i (cmCs l1) := (Kx.of_below (B := 0) (F := []) hb16).own HOW.out (by simp)
      have hw6 : w.heap.size ≤ w6.heap.size := by have := hb16.size; omega
      clear hown6 hb6 hb16
      refine And.intro (by first | exact s6 | exact fun _ => s6) ?_
      (try simp only [Act.put, List.setIfInBounds_toArray, List.set_cons_zero, List.set_cons_succ])
      refine wpAnyE_val (i := 6) (v := .agg #[.int .i64 xk, .slice A6 xn c6]) (d := some 18) rfl rfl (by kernel_rfl) (by kernel_rfl) (by kernel_rfl) (by kernel_rfl) (fun _ _ _ h => h) (Or.inl ⟨by rfl, fun w hS => by (obtain ⟨h0, h1⟩ := hS; go_simp)⟩) s6 ?_
      (try simp only [Act.put, List.setIfInBounds_toArray, List.set_cons_zero, List.set_cons_succ])
      refine wpAnyE_one (i := 7) rfl (by kernel_rfl) rfl ?_
      go_simp
      have s7 : (w6.alloc (.cells #[.int .i64 xk, .slice A6 xn c6] 166)).cell? ⟨hh, 0, none⟩ = some (.int .i64 xk) ∧ (w6.alloc (.cells #[.int .i64 xk, .slice A6 xn c6] 166)).cell? ⟨hh, 1, none⟩ = some (.slice xA xn xc) := ⟨(hh6.alloc _).cell 0, (hh6.alloc _).cell 1⟩
      refine And.intro (by first | exact s7 | exact fun _ => s7) ?_
      (try simp only [Act.put, List.setIfInBounds_toArray, List.set_cons_zero, List.set_cons_succ])
      refine wpAnyE_if (i := 8) rfl (by kernel_rfl) rfl ?_
      refine step_append_one rfl (.tmp 12) (.tmp 19) 38 rfl w.heap.size 166 i1 (.agg #[.int .i64 0, .slice none 0 0]) 2 32 Try.underlying38 hi1 hz10 hz11 hz12 rfl (by decide) (.slice OA i oc) i (cmCs l1) rfl (how6.alloc _) w6.heap.size 1 166 #[.int .i64 xk, .slice A6 xn c6] rfl (Bk.new w6 _ _) rfl ?c1 (i + 1) rfl ?c2 ?c3 ?c4 ?_
      case c1 => simp [Value.oneCell']
      case c2 => unfold maxLen; omega
      case c3 => omega
      case c4 => (simp; omega)
      intro g7 c7 w7 hown7 hg7 hat7
      have hne : ∀ q, some q = (Value.slice OA i oc).ownBlock → q ≠ hh := fun q hq e => by
        have := HHL.out q hq
        omega
      have hh7 : Bk w7 hh 166 #[.int .i64 xk, .slice xA xn xc] := (hh6.alloc _).grown hg7 (fun e => hne hh e rfl)
      have s8 : w7.cell? ⟨hh, 0, none⟩ = some (.int .i64 xk) ∧ w7.cell? ⟨hh, 1, none⟩ = some (.slice xA xn xc) := ⟨hh7.cell 0, hh7.cell 1⟩
      refine And.intro (by first | exact s8 | exact fun _ => s8) ?_
      (try simp only [Act.put, List.setIfInBounds_toArray])
      refine wpAnyE_one (i := 9) rfl (by kernel_rfl) rfl ?_
      go_simp
      refine wpAnyE_done (by kernel_rfl) ?_ _
      refine NoPanic.normal ?_
      have HN : Hid (Below w.heap.size w w7 ∧ ∃ l2, CpI w7 w.heap.size (some ⟨g7, 0, none⟩) (i + 1) c7 l2 (l.take (i + 1))) := Lib.hid (by
        refine ⟨?_, l1 ++ [⟨xk, A6, xn, c6, x.vals⟩], ?_⟩
        · exact ((HBW.out.trans (HB6.out.mono hwW)).alloc hw6 _).trans ⟨hg7.os, hg7.tape, hg7.output, hg7.size, fun q hq => hg7.block q (by simp; omega) (fun e => by have := (how6.lt q e.symm).1; omega)⟩
        · have hk1 : Kx 0 [] W1 w6 := Kx.of_below HB6.out
          have hk2 : Kx 0 [166] w6 w7 := ((Kx.refl (B := 0)).alloc _).grown (how6.alloc _) hg7 (Nat.zero_le _) (by simp)
          refine ⟨?_, ?_, ?_, fun d hd => ?_, ?_⟩
          · rw [show cmCs (l1 ++ [(⟨xk, A6, xn, c6, x.vals⟩ : Cm)]) = cmCs l1 ++ (#[Value.int .i64 xk, .slice A6 xn c6] : Array Value).toList by simp [cmCs, Cm.cs]]
            exact hown7
          · rw [List.map_append, HI1.out.p, List.take_add_one, HX.out.1, List.map_append, ← HXV.out.1]; rfl
          · rw [List.map_append, HI1.out.n, List.take_add_one, HX.out.1, List.map_append, ← HXV.out.2.2.1]; rfl
          · rcases List.mem_append.1 hd with hd | hd
            · exact ((HI1.out.ok d hd).keep hk1 (by simp)).keep hk2 (by decide)
            · rw [List.mem_singleton.1 hd]
              exact ⟨hk2.own (own_monoP HO6.out hwW) (by decide), by have h := HX.out.2.len; rw [HXV.out.2.2.1] at h; exact h, by have h := HX.out.2.wf; rw [HXV.out.1] at h; exact h⟩
          · unfold cmB
            rw [List.flatMap_append]
            refine HI1.out.nd.app ?_ fun a ha b9 hb9 => ?_
            · show Nd (rowB A6 ++ [])
              rw [List.append_nil]
              cases A6 with
              | none => exact Nd.nil
              | some a => exact List.pairwise_singleton _ _
            · obtain ⟨d, hd, ha⟩ := List.mem_flatMap.1 ha
              have h1 := HOB.out d hd a ha
              have hb9' : b9 ∈ rowB A6 := by simpa using hb9
              have h2 := (own_blk HO6.out hb9').1
              omega)
      clear HCL HOW HBW HI1 HOB HH HHL s1 s6 s7 s8 hh6 hh7 hown7 hg7 hat7 how6 hw6 hne HO6 HB6
      go_wp2_with fail
      go_roundw
      case measure => simp [intOf]; omega
      case rel => exact ⟨i + 1, c7, some ⟨g7, 0, none⟩, hlt, by go_num, rfl, HN⟩
    · obtain rfl : i = n := by omega
      have HP : Hid (CpI wr w.heap.size OA i oc l1 l ∧ Below w.heap.size w wr) := Lib.hid ⟨by rw [List.take_of_length_le (by rw [← HC.out.len]; exact Nat.le_refl _)] at hI; exact hI, hbw⟩
      clear hbw hI HI
      go_wp2_with fail
      go_ret
      exact ⟨OA, oc, l1, rfl, Lib.hid HP.out.1, HP.out.2⟩

/-! ### Sc -/
/-- concat2_any, its result in a row of its own. -/
theorem concat2O_any {W1 : World} {i : Nat} {qA : Option Addr} {qn qc : Nat} {path : List Int} (hq : RdY W1 0 3 1 qA qn (path.map (Value.int .i64))) (hl : qn = path.length) (hc : qn ≤ qc) (hc2 : qc ≤ 9223372036854775807) (h100 : path.length ≤ 100) :
    Calls Try.prog 28 #[.slice (some ⟨W1.heap.size + 1, 0, none⟩) 2 2] (((W1.alloc (.cells #[.int .i64 (i : Int)] 3)).alloc (.cells #[.slice (some ⟨W1.heap.size, 0, none⟩) 1 1, .slice qA qn qc] 30)).drew) fun e w' => ∃ (A' : Option Addr) (c' : Nat), e = .returned (.slice A' (path.length + 1) c') ∧ Hid (w'.ownsRow W1.heap.size 3 1 (.slice A' (path.length + 1) c') (path.length + 1) (((i : Int) :: path).map (Value.int .i64))) ∧ Hid (Below W1.heap.size W1 w') := by
  have e1 : (((W1.alloc (.cells #[.int .i64 (i : Int)] 3)).alloc (.cells #[.slice (some ⟨W1.heap.size, 0, none⟩) 1 1, .slice qA qn qc] 30)).drew).heap.size = W1.heap.size + 2 := by simp
  have hk1 : Bk (((W1.alloc (.cells #[.int .i64 (i : Int)] 3)).alloc (.cells #[.slice (some ⟨W1.heap.size, 0, none⟩) 1 1, .slice qA qn qc] 30)).drew) W1.heap.size 3 #[.int .i64 (i : Int)] := ((Bk.new W1 _ _).alloc _).drew
  have hk2 : Bk (((W1.alloc (.cells #[.int .i64 (i : Int)] 3)).alloc (.cells #[.slice (some ⟨W1.heap.size, 0, none⟩) 1 1, .slice qA qn qc] 30)).drew) (W1.heap.size + 1) 30 #[.slice (some ⟨W1.heap.size, 0, none⟩) 1 1, .slice qA qn qc] := by
    have h := (Bk.new (W1.alloc (.cells #[.int .i64 (i : Int)] 3)) 30 #[.slice (some ⟨W1.heap.size, 0, none⟩) 1 1, .slice qA qn qc]).drew
    simpa using h
  have hbz : Below W1.heap.size W1 (((W1.alloc (.cells #[.int .i64 (i : Int)] 3)).alloc (.cells #[.slice (some ⟨W1.heap.size, 0, none⟩) 1 1, .slice qA qn qc] 30)).drew) := (((Below.refl _ _).alloc (Nat.le_refl _) _).alloc (by simp) _).drew
  have hkz : Kx 0 [] W1 (((W1.alloc (.cells #[.int .i64 (i : Int)] 3)).alloc (.cells #[.slice (some ⟨W1.heap.size, 0, none⟩) 1 1, .slice qA qn qc] 30)).drew) := Kx.of_below hbz
  have hcat : catS [⟨some ⟨W1.heap.size, 0, none⟩, 1, 1, [(i : Int)]⟩, ⟨qA, qn, qc, path⟩] = (i : Int) :: path := by simp [catS]
  obtain ⟨WZ, hWZ⟩ : ∃ WZ, WZ = ((W1.alloc (.cells #[.int .i64 (i : Int)] 3)).alloc (.cells #[.slice (some ⟨W1.heap.size, 0, none⟩) 1 1, .slice qA qn qc] 30)).drew := ⟨_, rfl⟩
  rw [← hWZ] at e1 hk1 hk2 hbz hkz ⊢
  clear hWZ
  have h1 : Rd WZ WZ.heap.size 1 (some ⟨W1.heap.size + 1, 0, none⟩) 2 (sgCs [⟨some ⟨W1.heap.size, 0, none⟩, 1, 1, [(i : Int)]⟩, ⟨qA, qn, qc, path⟩]) := (RdY.of_bk (B := 0) (n := 2) (size := 1) hk2 rfl (fun j u hu => by simpa [sgCs] using hu)).rd
  have h2 : SgOk WZ WZ.heap.size ⟨some ⟨W1.heap.size, 0, none⟩, 1, 1, [(i : Int)]⟩ := ⟨(RdY.of_bk (B := 0) (n := 1) (size := 1) (xs := [Value.int .i64 (i : Int)]) hk1 rfl (fun j u hu => by simpa using hu)).rd, rfl, Nat.le_refl _, by show (1 : Nat) ≤ _; omega⟩
  have h3 : SgOk WZ WZ.heap.size ⟨qA, qn, qc, path⟩ := ⟨(hq.keep hkz (by simp)).rd, hl, hc, hc2⟩
  have hcc := concat_any (w := WZ) (B := WZ.heap.size) (n := 2) (c := 2) (A := some ⟨W1.heap.size + 1, 0, none⟩) (l := [⟨some ⟨W1.heap.size, 0, none⟩, 1, 1, [(i : Int)]⟩, ⟨qA, qn, qc, path⟩]) h1 rfl (Nat.le_refl _) (by omega)
    (fun x hx => by
      rcases List.mem_cons.1 hx with rfl | hx
      · exact h2
      · rw [List.mem_singleton.1 hx]; exact h3)
    (Nat.le_refl _) (by rw [hcat]; simp) (by rw [hcat, List.length_cons]; omega)
  rw [hcat] at hcc
  refine hcc.mono fun e w' h => ?_
  obtain ⟨A', c', h4, h5, h6⟩ := h
  exact ⟨A', c', h4, Lib.hid (own_monoP h5.out (by omega)), Lib.hid (hbz.trans (h6.mono (by omega)))⟩

noncomputable def ctSub : Code := (Try.f72.body.bind (findB 10)).getD .skip
/-- The third loop's state. -/
structure SuY (w : World) (base : Nat) (ks : List Kd) (i k m : Nat) (A3 : Option Addr) (c3 : Nat) (l sub l3 : List Bt) : Prop where
  own : w.ownsRow base 40 2 (.slice A3 (m + k) c3) (m + k) (btCs l3)
  len : l3.length = m + k
  p : l3.map Bt.p = l.map Bt.p ++ (sub.take k).map fun b => under i b.p
  ok : ∀ x ∈ l3, CtY w base x
  nd : Nd (bsB l3)
  kok : KOkB ks l3
  apart : ∀ a ∈ bsB l3, ∀ x ∈ sub.drop k, a ∉ cmB x.cms

set_option maxHeartbeats 6000000 in
theorem ctSub_any {x0 x1 x2 x3 x4 x5 x6 x7 x8 x9 x12 x14 x15 x16 x17 x18 x19 x20 x21 x22 x23 x24 x25 x26 x27 x28 x29 x30 x31 x32 x33 x34 x35 x36 x37 x38 x39 x40 x41 x42 x43 x44 x45 x46 x47 x48 x49 x50 x51 x52 x53 x54 x55 x56 x57 x58 x59 x60 x61 x62 x63 x64 x65 x66 x67 x68 x69 x70 x71 x72 x73 x74 x75 x76 x77 x78 x79 x80 x81 x82 x83 x84 x85 x86 x87 x88 x89 x90 x91 x92 x93 x94 x95 x96 x97 x98 x99 x100 x101 x102 x103 x104 x105 x106 x107 x108 x109 x110 x111 x112 x113 x114 x115 x116 x117 x118 x119 x120 x121 x122 x123 x124 x125 x126 x127 x128 x129 x130 x131 x132 x133 x134 x135 x136 x137 x138 x139 x140 x141 x142 x143 x144 x145 x146 x147 x148 x149 x150 x151 x152 x153 x154 x155 x156 x157 x158 x159 x160 x161 x162 x163 x164 x165 x166 x167 x168 x169 x170 x171 x172 x173 x174 x175 x176 x177 x178 : Value} {Q : Exit → Act → World → Prop} {w wr : World} {base i m c sn sc : Nat} {A SA : Option Addr} {ks : List Kd} {l sub : List Bt} (hw : base = w.heap.size) (hb : Below w.heap.size w wr) (hI : Hid (CnI wr base ks A m c l)) (hS : Hid (CnI wr base ks SA sn sc sub)) (hne : Hid (∀ q, (Value.slice SA sn sc).ownBlock = some q → (Value.slice A m c).ownBlock ≠ some q)) (hap : Hid (∀ a ∈ bsB l, ∀ x ∈ sub, a ∉ cmB x.cms)) (hsz : m + sn < 100000) (hpl : Hid (∀ x ∈ sub, x.path.length ≤ 100))
    (hN : ∀ (y16 y60 y61 y62 y63 y64 y65 y66 y67 y68 y69 y70 y71 y72 y73 y74 y75 y76 y77 y78 : Value) (A' : Option Addr) (c' : Nat) (w' : World), Hid (Below w.heap.size w w' ∧ ∃ l3, CnI w' base ks A' (m + sn) c' l3 ∧ l3.map Bt.p = l.map Bt.p ++ sub.map fun b => under i b.p) → Q .normal ⟨#[x0, x1, x2, x3, x4, x5, x6, x7, x8, x9, .slice A' (m + sn) c', .int .i64 i, x12, .slice SA sn sc, x14, x15, y16, x17, x18, x19, x20, x21, x22, x23, x24, x25, x26, x27, x28, x29, x30, x31, x32, x33, x34, x35, x36, x37, x38, x39, x40, x41, x42, x43, x44, x45, x46, x47, x48, x49, x50, x51, x52, x53, x54, x55, x56, x57, x58, x59, y60, y61, y62, y63, y64, y65, y66, y67, y68, y69, y70, y71, y72, y73, y74, y75, y76, y77, y78, x79, x80, x81, x82, x83, x84, x85, x86, x87, x88, x89, x90, x91, x92, x93, x94, x95, x96, x97, x98, x99, x100, x101, x102, x103, x104, x105, x106, x107, x108, x109, x110, x111, x112, x113, x114, x115, x116, x117, x118, x119, x120, x121, x122, x123, x124, x125, x126, x127, x128, x129, x130, x131, x132, x133, x134, x135, x136, x137, x138, x139, x140, x141, x142, x143, x144, x145, x146, x147, x148, x149, x150, x151, x152, x153, x154, x155, x156, x157, x158, x159, x160, x161, x162, x163, x164, x165, x166, x167, x168, x169, x170, x171, x172, x173, x174, x175, x176, x177, x178], []⟩ w') :
    Code.wp Try.prog ctSub Q ⟨#[x0, x1, x2, x3, x4, x5, x6, x7, x8, x9, .slice A m c, .int .i64 i, x12, .slice SA sn sc, x14, x15, x16, x17, x18, x19, x20, x21, x22, x23, x24, x25, x26, x27, x28, x29, x30, x31, x32, x33, x34, x35, x36, x37, x38, x39, x40, x41, x42, x43, x44, x45, x46, x47, x48, x49, x50, x51, x52, x53, x54, x55, x56, x57, x58, x59, x60, x61, x62, x63, x64, x65, x66, x67, x68, x69, x70, x71, x72, x73, x74, x75, x76, x77, x78, x79, x80, x81, x82, x83, x84, x85, x86, x87, x88, x89, x90, x91, x92, x93, x94, x95, x96, x97, x98, x99, x100, x101, x102, x103, x104, x105, x106, x107, x108, x109, x110, x111, x112, x113, x114, x115, x116, x117, x118, x119, x120, x121, x122, x123, x124, x125, x126, x127, x128, x129, x130, x131, x132, x133, x134, x135, x136, x137, x138, x139, x140, x141, x142, x143, x144, x145, x146, x147, x148, x149, x150, x151, x152, x153, x154, x155, x156, x157, x158, x159, x160, x161, x162, x163, x164, x165, x166, x167, x168, x169, x170, x171, x172, x173, x174, x175, x176, x177, x178], []⟩ wr := by
  conv => arg 2; whnf
  obtain ⟨i40, hi40, ha0, ha1, ha2⟩ := info_parts T.info40
  have HB := Lib.hid hb
  have HSI : Hid (SuY wr base ks i 0 m A c l sub l) := Lib.hid ⟨hI.out.own, by rw [← hI.out.len]; rfl, by simp, hI.out.ok, hI.out.nd, hI.out.kok, by simpa using hap.out⟩
  have HSS : Hid (wr.ownsRow base 40 2 (.slice SA sn sc) sn (btCs sub) ∧ (∀ x ∈ sub, CtY wr base x)) := Lib.hid ⟨hS.out.own, hS.out.ok⟩
  have HSP : Hid (sn = sub.length ∧ Nd (bsB sub) ∧ KOkB ks sub) := Lib.hid ⟨hS.out.len, hS.out.nd, hS.out.kok⟩
  have HW := Lib.hid hw
  clear hb hI hS hw hap
  go_wp2_with fail
  go_loopw [10, 62] (fun av iv wx => ∃ (k : Nat) (A3 : Option Addr) (c3 : Nat), k ≤ sn ∧ iv = .int .i64 k ∧ av = .slice A3 (m + k) c3 ∧ Hid (∃ l3, SuY wx base ks i k m A3 c3 l sub l3) ∧ Hid (wx.ownsRow base 40 2 (.slice SA sn sc) sn (btCs sub) ∧ (∀ x ∈ sub, CtY wx base x)) ∧ Hid (∀ q, (Value.slice SA sn sc).ownBlock = some q → (Value.slice A3 (m + k) c3).ownBlock ≠ some q) ∧ Hid (Below w.heap.size w wx)) (fun _ iv _ => sn - (intOf iv).toNat)
  case atStart => exact ⟨0, A, c, Nat.zero_le _, rfl, rfl, Lib.hid ⟨l, HSI.out⟩, HSS, hne, HB⟩
  case round =>
    clear HSI HSS hne HB
    obtain ⟨k, A3, c3, hk, rfl, rfl, HI, HS, HN, HB⟩ := hrel
    obtain ⟨l3, hI⟩ := HI.out
    by_cases hlt : k < sn
    · obtain ⟨x, hx⟩ : ∃ x, sub[k]? = some x := ⟨_, List.getElem?_eq_getElem (by have := HSP.out.1; omega)⟩
      have hxm := List.mem_of_getElem? hx
      obtain ⟨b, o, rfl, hbb, q0, q1⟩ := Rd.btS HS.out.1 hlt hx
      have hxY := HS.out.2 x hxm
      have hxp := hpl.out x hxm
      have hkz : (k : Int) < sn := by omega
      have hkz0 : (0 : Int) ≤ k := by omega
      have hzb : w.heap.size ≤ wr.heap.size := HB.out.size
      have hbs : base ≤ wr.heap.size := by have := HW.out; omega
      obtain ⟨W1, hW1⟩ : ∃ W1, W1 = wr.alloc (.cells #[.slice x.pA x.pn x.pc, .slice x.cA x.cn x.cc] 40) := ⟨_, rfl⟩
      obtain ⟨hh, hhe⟩ : ∃ hh, hh = wr.heap.size := ⟨_, rfl⟩
      have hb1 : Below wr.heap.size wr W1 := by rw [hW1]; exact (Below.refl _ _).alloc (Nat.le_refl _) _
      have hk1 : Kx 0 [] wr W1 := Kx.of_below hb1
      have HH : Hid (Bk W1 hh 40 #[.slice x.pA x.pn x.pc, .slice x.cA x.cn x.cc]) := Lib.hid (by rw [hW1, hhe]; exact Bk.new _ _ _)
      have HOW : Hid (W1.ownsRow base 40 2 (.slice A3 (m + k) c3) (m + k) (btCs l3)) := Lib.hid (hk1.own hI.own (by simp))
      have HBW : Hid (Below w.heap.size w W1) := Lib.hid (HB.out.trans (hb1.mono hzb))
      have hwW : base ≤ W1.heap.size := by have := hb1.size; omega
      have HXY : Hid (CtY W1 base x) := Lib.hid (hxY.keep hk1 (by simp) (by simp))
      have HS1 : Hid (W1.ownsRow base 40 2 (.slice (some ⟨b, o, none⟩) sn sc) sn (btCs sub) ∧ (∀ y ∈ sub, CtY W1 base y)) := Lib.hid ⟨hk1.own HS.out.1 (by simp), fun y hy => (HS.out.2 y hy).keep hk1 (by simp) (by simp)⟩
      have HI1 : Hid (SuY W1 base ks i k m A3 c3 l sub l3) := Lib.hid ⟨HOW.out, hI.len, hI.p, fun y hy => (hI.ok y hy).keep hk1 (by simp) (by simp), hI.nd, hI.kok, hI.apart⟩
      have HOB : Hid (∀ g ∈ bsB l3, g < W1.heap.size) := Lib.hid fun g hg => by
        obtain ⟨y, hy, hg⟩ := List.mem_flatMap.1 hg
        have := ((hI.ok y hy).blk hg).2; have := hb1.size; omega
      have HSB : Hid (∀ y ∈ sub, ∀ g ∈ btB y, g < W1.heap.size) := Lib.hid fun y hy g hg => by
        have := ((HS.out.2 y hy).blk hg).2; have := hb1.size; omega
      have HHL : Hid (∀ q, some q = (Value.slice A3 (m + k) c3).ownBlock → q < hh) := Lib.hid fun q hq => by rw [hhe]; exact (hI.own.lt q hq.symm).2
      have hcp := own_cap2 HXY.out.pth
      have HCC := Lib.hid (concat2O_any (i := i) (RdY.of_own (B := 0) HXY.out.pth) HXY.out.plen hcp.1 hcp.2 hxp)
      have HS5 : Hid (∀ wz, Below W1.heap.size W1 wz → wz.cell? ⟨hh, 0, none⟩ = some (.slice x.pA x.pn x.pc) ∧ wz.cell? ⟨hh, 1, none⟩ = some (.slice x.cA x.cn x.cc)) := Lib.hid fun wz hz => ⟨(HH.out.below hz HH.out.lt).cell 0, (HH.out.below hz HH.out.lt).cell 1⟩
      have HX := Lib.hid (And.intro hx hxm)
      have HW1 := Lib.hid (And.intro hW1 hhe)
      clear hx hxm hbb hxY hb1 hk1 hI HI hW1 hhe hcp
      generalize hpA : x.pA = pA at *
      generalize hpn : x.pn = pn at *
      generalize hpc : x.pc = pc at *
      generalize hqA : x.cA = qA at *
      generalize hqn : x.cn = qn at *
      generalize hqc : x.cc = qc at *
      generalize hN1 : x.path.length + 1 = N1 at *
      have HXV := Lib.hid (And.intro hqA (And.intro hqn (And.intro hqc hN1)))
      clear hpA hpn hpc hqA hqn hqc hN1
      have s1 : W1.drew.cell? ⟨hh, 0, none⟩ = some (.slice pA pn pc) ∧ W1.drew.cell? ⟨hh, 1, none⟩ = some (.slice qA qn qc) := HS5.out _ (Below.refl _ _).drew
      go_upto_region 13 with fail
      rw [← HW1.out.1, ← HW1.out.2]
      clear q0 q1
      refine wp_region_noPanic ?_
      refine wp_region_E (S := fun wx => wx.cell? ⟨hh, 0, none⟩ = some (.slice pA pn pc) ∧ wx.cell? ⟨hh, 1, none⟩ = some (.slice qA qn qc)) (last := 12) (by kernel_rfl) ?_
      refine wpAnyE_val (i := 0) (v := .slice A3 (m + k) c3) (d := some 66) rfl rfl (by kernel_rfl) (by kernel_rfl) (by kernel_rfl) (by kernel_rfl) (fun _ _ _ h => h) (Or.inl ⟨by rfl, fun w hS => by (obtain ⟨h0, h1⟩ := hS; go_simp)⟩) s1 ?_
      (try simp only [Act.put, List.setIfInBounds_toArray, List.set_cons_zero, List.set_cons_succ])
      refine wpAnyE_val (i := 1) (v := .int .i64 i) (d := some 67) rfl rfl (by kernel_rfl) (by kernel_rfl) (by kernel_rfl) (by kernel_rfl) (fun _ _ _ h => h) (Or.inl ⟨by rfl, fun w hS => by (obtain ⟨h0, h1⟩ := hS; go_simp)⟩) s1 ?_
      (try simp only [Act.put, List.setIfInBounds_toArray, List.set_cons_zero, List.set_cons_succ])
      refine wpAnyE_val (i := 3) (v := .pointer (some ⟨hh, 0, none⟩)) (d := some 69) rfl rfl (by kernel_rfl) (by kernel_rfl) (by kernel_rfl) (by kernel_rfl) (fun _ _ _ h => h) (Or.inl ⟨by rfl, fun w hS => by (obtain ⟨h0, h1⟩ := hS; go_simp)⟩) s1 ?_
      (try simp only [Act.put, List.setIfInBounds_toArray, List.set_cons_zero, List.set_cons_succ])
      refine wpAnyE_val (i := 4) (v := .slice pA pn pc) (d := some 70) rfl rfl (by kernel_rfl) (by kernel_rfl) (by kernel_rfl) (by kernel_rfl) (fun _ _ _ h => h) (Or.inl ⟨by rfl, fun w hS => by (obtain ⟨h0, h1⟩ := hS; go_simp)⟩) s1 ?_
      (try simp only [Act.put, List.setIfInBounds_toArray, List.set_cons_zero, List.set_cons_succ])
      refine wpAnyE_val (i := 7) (v := .pointer (some ⟨hh, 1, none⟩)) (d := some 73) rfl rfl (by kernel_rfl) (by kernel_rfl) (by kernel_rfl) (by kernel_rfl) (fun _ _ _ h => h) (Or.inl ⟨by rfl, fun w hS => by (obtain ⟨h0, h1⟩ := hS; go_simp)⟩) s1 ?_
      (try simp only [Act.put, List.setIfInBounds_toArray, List.set_cons_zero, List.set_cons_succ])
      refine wpAnyE_val (i := 8) (v := .slice qA qn qc) (d := some 74) rfl rfl (by kernel_rfl) (by kernel_rfl) (by kernel_rfl) (by kernel_rfl) (fun _ _ _ h => h) (Or.inl ⟨by rfl, fun w hS => by (obtain ⟨h0, h1⟩ := hS; go_simp)⟩) s1 ?_
      (try simp only [Act.put, List.setIfInBounds_toArray, List.set_cons_zero, List.set_cons_succ])
      refine wpAnyE_one (i := 2) rfl (by kernel_rfl) rfl ?_
      go_simp
      refine And.intro (by first | exact HS5.out _ ((Below.refl _ _).alloc (Nat.le_refl _) _) | exact HS5.out _ (((Below.refl _ _).drew).alloc (Nat.le_refl _) _) | exact HS5.out _ (((Below.refl _ _).alloc (Nat.le_refl _) _).drew)) ?_
      (try simp only [Act.put, List.setIfInBounds_toArray, List.set_cons_zero, List.set_cons_succ])
      refine wpAnyE_one (i := 5) rfl (by kernel_rfl) rfl ?_
      go_simp
      refine And.intro (by first | exact HS5.out _ (((Below.refl _ _).alloc (Nat.le_refl _) _).alloc (by simp) _) | exact HS5.out _ ((((Below.refl _ _).alloc (Nat.le_refl _) _).alloc (by simp) _).drew)) ?_
      (try simp only [Act.put, List.setIfInBounds_toArray, List.set_cons_zero, List.set_cons_succ])
      refine wpAnyE_one (i := 6) rfl (by kernel_rfl) rfl ?_
      go_simp
      go_at_call 28
      (with_reducible refine (HCC.out).mono ?_)
      rintro e w6 ⟨A6, c6, rfl, hown6, hb6⟩
      have HB6 := hb6
      have HO6 := hown6
      have hh6 : Bk w6 hh 40 #[.slice pA pn pc, .slice qA qn qc] := HH.out.below HB6.out HH.out.lt
      have s6 : w6.cell? ⟨hh, 0, none⟩ = some (.slice pA pn pc) ∧ w6.cell? ⟨hh, 1, none⟩ = some (.slice qA qn qc) := ⟨hh6.cell 0, hh6.cell 1⟩
      have how6 : w6.ownsRow base 40 2 (.slice A3 (m + k) c3) (m + k) (btCs l3) := (Kx.of_below (B := 0) (F := []) HB6.out).own HOW.out (by simp)
      have hw6 : W1.heap.size ≤ w6.heap.size := HB6.out.size
      clear hown6 hb6
      refine And.intro (by first | exact s6 | exact fun _ => s6) ?_
      (try simp only [Act.put, List.setIfInBounds_toArray, List.set_cons_zero, List.set_cons_succ])
      refine wpAnyE_val (i := 9) (v := .agg #[.slice A6 N1 c6, .slice qA qn qc]) (d := some 75) rfl rfl (by kernel_rfl) (by kernel_rfl) (by kernel_rfl) (by kernel_rfl) (fun _ _ _ h => h) (Or.inl ⟨by rfl, fun w hS => by (obtain ⟨h0, h1⟩ := hS; go_simp)⟩) s6 ?_
      (try simp only [Act.put, List.setIfInBounds_toArray, List.set_cons_zero, List.set_cons_succ])
      refine wpAnyE_one (i := 10) rfl (by kernel_rfl) rfl ?_
      go_simp
      have s7 : (w6.alloc (.cells #[.slice A6 N1 c6, .slice qA qn qc] 40)).cell? ⟨hh, 0, none⟩ = some (.slice pA pn pc) ∧ (w6.alloc (.cells #[.slice A6 N1 c6, .slice qA qn qc] 40)).cell? ⟨hh, 1, none⟩ = some (.slice qA qn qc) := ⟨(hh6.alloc _).cell 0, (hh6.alloc _).cell 1⟩
      refine And.intro (by first | exact s7 | exact fun _ => s7) ?_
      (try simp only [Act.put, List.setIfInBounds_toArray, List.set_cons_zero, List.set_cons_succ])
      refine wpAnyE_if (i := 11) rfl (by kernel_rfl) rfl ?_
      refine step_append_one rfl (.tmp 66) (.tmp 76) 35 rfl base 40 i40 (.agg #[.slice none 0 0, .slice none 0 0]) 2 48 Try.underlying35 hi40 ha0 ha1 ha2 rfl (by decide) (.slice A3 (m + k) c3) (m + k) (btCs l3) rfl (how6.alloc _) w6.heap.size 1 40 #[.slice A6 N1 c6, .slice qA qn qc] rfl (Bk.new w6 _ _) rfl ?c1 (m + k + 1) rfl ?c2 ?c3 ?c4 ?_
      case c1 => simp [Value.oneCell']
      case c2 => unfold maxLen; omega
      case c3 => omega
      case c4 => (simp; omega)
      intro g7 c7 w7 hown7 hg7 hat7
      have hne : ∀ q, some q = (Value.slice A3 (m + k) c3).ownBlock → q ≠ hh := fun q hq e => by
        have := HHL.out q hq
        omega
      have hh7 : Bk w7 hh 40 #[.slice pA pn pc, .slice qA qn qc] := (hh6.alloc _).grown hg7 (fun e => hne hh e rfl)
      have s8 : w7.cell? ⟨hh, 0, none⟩ = some (.slice pA pn pc) ∧ w7.cell? ⟨hh, 1, none⟩ = some (.slice qA qn qc) := ⟨hh7.cell 0, hh7.cell 1⟩
      refine And.intro (by first | exact s8 | exact fun _ => s8) ?_
      (try simp only [Act.put, List.setIfInBounds_toArray])
      refine wpAnyE_one (i := 12) rfl (by kernel_rfl) rfl ?_
      go_simp
      refine wpAnyE_done (by kernel_rfl) ?_ _
      refine NoPanic.normal ?_
      have hk16 : Kx 0 [] W1 w6 := Kx.of_below HB6.out
      have hk67 : Kx 0 [40] w6 w7 := ((Kx.refl (B := 0)).alloc _).grown (how6.alloc _) hg7 (Nat.zero_le _) (by simp)
      have hbig : W1.heap.size ≤ w6.heap.size := hw6
      have HNB : Hid (Below w.heap.size w w7) := Lib.hid (((HBW.out.trans (HB6.out.mono HBW.out.size)).alloc (by have := HBW.out.size; omega) _).trans ⟨hg7.os, hg7.tape, hg7.output, hg7.size, fun q hq => hg7.block q (by have := HBW.out.size; simp; omega) (fun e => by have := (how6.lt q e.symm).1; have := HW.out; omega)⟩)
      have hdr : ∀ y ∈ sub.drop (k + 1), y ∈ sub.drop k := fun y hy => by
        have e : sub.drop k = x :: sub.drop (k + 1) := by
          obtain ⟨h1, h2⟩ := List.getElem?_eq_some_iff.1 HX.out.1
          rw [List.drop_eq_getElem_cons h1, h2]
        rw [e]; exact List.mem_cons_of_mem _ hy
      have hdx : ∀ y ∈ sub.drop (k + 1), ∀ g ∈ cmB x.cms, g ∉ cmB y.cms := fun y hy g hg hg2 => by
        obtain ⟨j, hj⟩ := List.mem_iff_getElem?.1 hy
        rw [List.getElem?_drop] at hj
        exact nd_apart (f := btB) HSP.out.2.1 HX.out.1 hj (by omega) (List.mem_append.2 (.inr hg)) (List.mem_append.2 (.inr hg2))
      have hx0 : x ∈ sub.drop k := by
        obtain ⟨h1, h2⟩ := List.getElem?_eq_some_iff.1 HX.out.1
        rw [List.drop_eq_getElem_cons h1, h2]
        exact List.mem_cons_self ..
      have HN7 : Hid (∃ l4, SuY w7 base ks i (k + 1) m (some ⟨g7, 0, none⟩) c7 l sub l4) := Lib.hid ⟨l3 ++ [⟨A6, N1, c6, (i : Int) :: x.path, x.cA, x.cn, x.cc, x.cms⟩], by
        refine ⟨?_, by rw [List.length_append, HI1.out.len]; rfl, ?_, fun y hy => ?_, ?_, fun y hy => ?_, ?_⟩
        · have e : btCs (l3 ++ [⟨A6, N1, c6, (i : Int) :: x.path, x.cA, x.cn, x.cc, x.cms⟩]) = btCs l3 ++ (#[Value.slice A6 N1 c6, .slice qA qn qc] : Array Value).toList := by simp [btCs, Bt.cs, HXV.out.1, HXV.out.2.1, HXV.out.2.2.1]
          rw [e]; exact hown7
        · rw [List.map_append, HI1.out.p, List.take_add_one, HX.out.1, List.append_assoc, Option.toList_some, List.map_append]
          rfl
        · rcases List.mem_append.1 hy with hy | hy
          · exact ((HI1.out.ok y hy).keep hk16 (by simp) (by simp)).keep hk67 (by decide) (by decide)
          · rw [List.mem_singleton.1 hy]
            have h1 := (HXY.out.keep hk16 (by simp) (by simp)).keep hk67 (by decide) (by decide)
            exact ⟨hk67.own (own_monoP HO6.out hwW) (by decide), by show N1 = x.path.length + 1; exact HXV.out.2.2.2.symm, h1.crd, h1.clen, h1.ccap, h1.ccap2, h1.vals⟩
        · unfold bsB
          rw [List.flatMap_append]
          have hxnd := (nd_flat HSP.out.2.1).1 x HX.out.2
          refine HI1.out.nd.app ?_ fun a ha b9 hb9 => ?_
          · show Nd ((rowB A6 ++ cmB x.cms) ++ [])
            rw [List.append_nil]
            refine Nd.app ?_ (List.pairwise_append.1 (show Nd (rowB x.pA ++ cmB x.cms) from hxnd)).2.1 fun a ha b9 hb9 => ?_
            · cases A6 with
              | none => exact Nd.nil
              | some a => exact List.pairwise_singleton _ _
            · have h1 := (own_blk HO6.out ha).1
              have h2 := HSB.out x HX.out.2 b9 (List.mem_append.2 (.inr hb9))
              omega
          · have hb9' : b9 ∈ rowB A6 ++ cmB x.cms := by simpa [btB] using hb9
            rcases List.mem_append.1 hb9' with hb9' | hb9'
            · have h1 := (own_blk HO6.out hb9').1
              have h2 := HOB.out a ha
              omega
            · rintro rfl
              exact HI1.out.apart a ha x hx0 hb9'
        · rcases List.mem_append.1 hy with hy | hy
          · exact HI1.out.kok y hy
          · rw [List.mem_singleton.1 hy]
            exact HSP.out.2.2 x HX.out.2
        · intro a ha y hy hb9
          unfold bsB at ha
          rw [List.flatMap_append] at ha
          rcases List.mem_append.1 ha with ha | ha
          · exact HI1.out.apart a ha y (hdr y hy) hb9
          · have ha' : a ∈ rowB A6 ++ cmB x.cms := by simpa [btB] using ha
            rcases List.mem_append.1 ha' with ha' | ha'
            · have h1 := (own_blk HO6.out ha').1
              have h2 := HSB.out y (List.mem_of_mem_drop hy) a (List.mem_append.2 (.inr hb9))
              omega
            · exact hdx y hy a ha' hb9⟩
      have hS6 : w6.ownsRow base 40 2 (.slice (some ⟨b, o, none⟩) sn sc) sn (btCs sub) := hk16.own HS1.out.1 (by simp)
      have HS7 : Hid (w7.ownsRow base 40 2 (.slice (some ⟨b, o, none⟩) sn sc) sn (btCs sub) ∧ (∀ y ∈ sub, CtY w7 base y)) := Lib.hid ⟨own_keepB (hS6.alloc _) fun q hq => hg7.block q ((hS6.alloc _).lt q hq).2 (fun e => HN.out q hq e.symm), fun y hy => ((HS1.out.2 y hy).keep hk16 (by simp) (by simp)).keep hk67 (by decide) (by decide)⟩
      have HNE : Hid (∀ q, (Value.slice (some ⟨b, o, none⟩) sn sc).ownBlock = some q → (Value.slice (some ⟨g7, 0, none⟩) (m + (k + 1)) c7).ownBlock ≠ some q) := Lib.hid (fun q hq e => by
        have e1 : g7 = q := by simpa [Value.ownBlock] using e
        subst e1
        rcases hat7 with h | h
        · exact HN.out g7 hq h
        · have := (hS6.lt g7 hq).2
          simp at h; omega)
      clear HCC HOW HBW HI1 HOB HSB HH HHL s1 s6 s7 s8 hh6 hh7 hown7 hg7 hat7 how6 hw6 hne HO6 HB6 hk16 hk67 hdr hdx hx0 hS6 HS1 HXY HS5
      go_wp2_with fail
      go_roundw
      case measure => simp [intOf]; omega
      case rel => exact ⟨k + 1, some ⟨g7, 0, none⟩, c7, hlt, by go_num, rfl, HN7, HS7, HNE, HNB⟩
    · obtain rfl : k = sn := by omega
      have HP : Hid (Below w.heap.size w wr ∧ ∃ l3, CnI wr base ks A3 (m + k) c3 l3 ∧ l3.map Bt.p = l.map Bt.p ++ sub.map fun b => under i b.p) := Lib.hid ⟨HB.out, l3, ⟨hI.own, hI.len.symm, hI.ok, hI.nd, hI.kok⟩, by rw [hI.p, List.take_of_length_le (by rw [← HSP.out.1]; exact Nat.le_refl _)]⟩
      clear hI HI
      go_wp2_with fail
      first
        | exact HP
        | exact hN _ _ _ _ _ _ _ _ _ _ _ _ _ _ _ _ _ _ _ _ _ _ _ HP

/-! ### Sd -/
def ConP (w : World) (ks : List Kd) (r : Int × List Blt) (e : Ending) (w' : World) : Prop :=
  Below w.heap.size w w' ∧ ((r.1 ≠ 0 ∧ e = .returned (.tuple #[.slice none 0 0, .int .i64 r.1])) ∨ (r.1 = 0 ∧ ∃ (A : Option Addr) (m c : Nat) (l : List Bt), e = .returned (.tuple #[.slice A m c, .int .i64 0]) ∧ Hid (CnI w' w.heap.size ks A m c l ∧ l.map Bt.p = r.2)))
theorem CnI.blkS {w : World} {base m c : Nat} {ks : List Kd} {A : Option Addr} {l : List Bt} (h : CnI w base ks A m c l) {g : Nat} (hg : g ∈ bsB l) : base ≤ g ∧ g < w.heap.size := by
  obtain ⟨y, hy, hg⟩ := List.mem_flatMap.1 hg
  exact (h.ok y hy).blk hg

noncomputable def ctParts : Code := (Try.f72.body.bind (findB 4)).getD .skip

set_option maxHeartbeats 6000000 in
theorem ctParts_any {x3 x4 x5 x6 x7 x8 x9 x11 x12 x13 x14 x15 x16 x17 x18 x19 x20 x21 x22 x23 x24 x25 x26 x27 x28 x29 x30 x31 x32 x33 x34 x35 x36 x37 x38 x39 x40 x41 x42 x43 x44 x45 x46 x47 x48 x49 x50 x51 x52 x53 x54 x55 x56 x57 x58 x59 x60 x61 x62 x63 x64 x65 x66 x67 x68 x69 x70 x71 x72 x73 x74 x75 x76 x77 x78 x79 x80 x81 x82 x83 x84 x85 x86 x87 x88 x89 x90 x91 x92 x93 x94 x95 x96 x97 x98 x99 x100 x101 x102 x103 x104 x105 x106 x107 x108 x109 x110 x111 x112 x113 x114 x115 x116 x117 x118 x119 x120 x121 x122 x123 x124 x125 x126 x127 x128 x129 x130 x131 x132 x133 x134 x135 x136 x137 x138 x139 x140 x141 x142 x143 x144 x145 x146 x147 x148 x149 x150 x151 x152 x153 x154 x155 x156 x157 x158 x159 x160 x161 x162 x163 x164 x165 x166 x167 x168 x169 x170 x171 x172 x173 x174 x175 x176 x177 x178 : Value} {Q : Exit → Act → World → Prop} {w wr : World} {B kn kc tn tc m c nn d : Nat} {kA TA A : Option Addr} {ks : List Kd} {ts : List Pf} {t : Pf} {l : List Bt} (ht : PfsOk w B TA tn tc ts) (hn : ts[nn]? = some t) (hb : Below w.heap.size w wr) (hI : Hid (CnI wr w.heap.size ks A m c l)) (hm : m ≤ 200)
    (hrec : Hid (∀ (wz : World) (x : Pt), x ∈ t.pts → Below w.heap.size w wz → Calls Try.prog 72 #[.slice kA kn kc, .slice TA tn tc, .int .i64 x.of_, .slice x.oA x.on x.oc] wz (ConP wz ks (buildF (ks.map Kd.p) (ts.map Pf.p) d x.of_ (x.ovs.map Ov.p))))) (hd : d ≤ 100)
    (hE : ∀ (y11 y12 y13 y14 y16 y36 y37 y38 y39 y40 y41 y42 y43 y44 y45 y46 y47 y48 y49 y50 y51 y52 y53 y54 y55 y56 y57 y58 y59 y60 y61 y62 y63 y64 y65 y66 y67 y68 y69 y70 y71 y72 y73 y74 y75 y76 y77 y78 y79 y80 y81 y82 : Value) (s10 : Value) (e9 : Int) (w' : World), Hid (Below w.heap.size w w' ∧ (partsF (buildF (ks.map Kd.p) (ts.map Pf.p) d) 0 (t.pts.map Pt.p) (l.map Bt.p)).1 ≠ 0 ∧ (partsF (buildF (ks.map Kd.p) (ts.map Pf.p) d) 0 (t.pts.map Pt.p) (l.map Bt.p)).1 = e9) → Q .ret ⟨#[.slice kA kn kc, .slice TA tn tc, .int .i64 nn, x3, x4, x5, x6, x7, .slice none 0 0, .int .i64 e9, s10, y11, y12, y13, y14, x15, y16, x17, x18, x19, x20, x21, x22, x23, x24, x25, x26, x27, x28, x29, x30, x31, x32, x33, x34, x35, y36, y37, y38, y39, y40, y41, y42, y43, y44, y45, y46, y47, y48, y49, y50, y51, y52, y53, y54, y55, y56, y57, y58, y59, y60, y61, y62, y63, y64, y65, y66, y67, y68, y69, y70, y71, y72, y73, y74, y75, y76, y77, y78, y79, y80, y81, y82, x83, x84, x85, x86, x87, x88, x89, x90, x91, x92, x93, x94, x95, x96, x97, x98, x99, x100, x101, x102, x103, x104, x105, x106, x107, x108, x109, x110, x111, x112, x113, x114, x115, x116, x117, x118, x119, x120, x121, x122, x123, x124, x125, x126, x127, x128, x129, x130, x131, x132, x133, x134, x135, x136, x137, x138, x139, x140, x141, x142, x143, x144, x145, x146, x147, x148, x149, x150, x151, x152, x153, x154, x155, x156, x157, x158, x159, x160, x161, x162, x163, x164, x165, x166, x167, x168, x169, x170, x171, x172, x173, x174, x175, x176, x177, x178], []⟩ w')
    (hN : ∀ (y8 y9 y11 y12 y13 y14 y16 y36 y37 y38 y39 y40 y41 y42 y43 y44 y45 y46 y47 y48 y49 y50 y51 y52 y53 y54 y55 y56 y57 y58 y59 y60 y61 y62 y63 y64 y65 y66 y67 y68 y69 y70 y71 y72 y73 y74 y75 y76 y77 y78 y79 y80 y81 y82 : Value) (A' : Option Addr) (m' c' : Nat) (w' : World), Hid (Below w.heap.size w w' ∧ (partsF (buildF (ks.map Kd.p) (ts.map Pf.p) d) 0 (t.pts.map Pt.p) (l.map Bt.p)).1 = 0 ∧ m' ≤ 200 ∧ ∃ l', CnI w' w.heap.size ks A' m' c' l' ∧ l'.map Bt.p = (partsF (buildF (ks.map Kd.p) (ts.map Pf.p) d) 0 (t.pts.map Pt.p) (l.map Bt.p)).2) → Q .normal ⟨#[.slice kA kn kc, .slice TA tn tc, .int .i64 nn, x3, x4, x5, x6, x7, y8, y9, .slice A' m' c', y11, y12, y13, y14, x15, y16, x17, x18, x19, x20, x21, x22, x23, x24, x25, x26, x27, x28, x29, x30, x31, x32, x33, x34, x35, y36, y37, y38, y39, y40, y41, y42, y43, y44, y45, y46, y47, y48, y49, y50, y51, y52, y53, y54, y55, y56, y57, y58, y59, y60, y61, y62, y63, y64, y65, y66, y67, y68, y69, y70, y71, y72, y73, y74, y75, y76, y77, y78, y79, y80, y81, y82, x83, x84, x85, x86, x87, x88, x89, x90, x91, x92, x93, x94, x95, x96, x97, x98, x99, x100, x101, x102, x103, x104, x105, x106, x107, x108, x109, x110, x111, x112, x113, x114, x115, x116, x117, x118, x119, x120, x121, x122, x123, x124, x125, x126, x127, x128, x129, x130, x131, x132, x133, x134, x135, x136, x137, x138, x139, x140, x141, x142, x143, x144, x145, x146, x147, x148, x149, x150, x151, x152, x153, x154, x155, x156, x157, x158, x159, x160, x161, x162, x163, x164, x165, x166, x167, x168, x169, x170, x171, x172, x173, x174, x175, x176, x177, x178], []⟩ w') :
    Code.wp Try.prog ctParts Q ⟨#[.slice kA kn kc, .slice TA tn tc, .int .i64 nn, x3, x4, x5, x6, x7, x8, x9, .slice A m c, x11, x12, x13, x14, x15, x16, x17, x18, x19, x20, x21, x22, x23, x24, x25, x26, x27, x28, x29, x30, x31, x32, x33, x34, x35, x36, x37, x38, x39, x40, x41, x42, x43, x44, x45, x46, x47, x48, x49, x50, x51, x52, x53, x54, x55, x56, x57, x58, x59, x60, x61, x62, x63, x64, x65, x66, x67, x68, x69, x70, x71, x72, x73, x74, x75, x76, x77, x78, x79, x80, x81, x82, x83, x84, x85, x86, x87, x88, x89, x90, x91, x92, x93, x94, x95, x96, x97, x98, x99, x100, x101, x102, x103, x104, x105, x106, x107, x108, x109, x110, x111, x112, x113, x114, x115, x116, x117, x118, x119, x120, x121, x122, x123, x124, x125, x126, x127, x128, x129, x130, x131, x132, x133, x134, x135, x136, x137, x138, x139, x140, x141, x142, x143, x144, x145, x146, x147, x148, x149, x150, x151, x152, x153, x154, x155, x156, x157, x158, x159, x160, x161, x162, x163, x164, x165, x166, x167, x168, x169, x170, x171, x172, x173, x174, x175, x176, x177, x178], []⟩ wr := by
  conv => arg 2; whnf
  obtain ⟨bf, hbf⟩ : ∃ bf, bf = buildF (ks.map Kd.p) (ts.map Pf.p) d := ⟨_, rfl⟩
  rw [← hbf] at hrec hE hN
  obtain ⟨R, hR⟩ : ∃ R, R = partsF bf 0 (t.pts.map Pt.p) (l.map Bt.p) := ⟨_, rfl⟩
  rw [← hR] at hE hN
  have hB := ht.lo
  have hcap := ht.cap
  have hcap2 := ht.cap2
  have hnt : nn < tn := by have := (List.getElem?_eq_some_iff.1 hn).1; have := ht.len; omega
  obtain ⟨tb, tof, rfl, htb, t0, t1⟩ := (ht.below (hb.mono hB)).rd.pf hnt hn
  have hto := ht.ok t (List.mem_of_getElem? hn)
  have hpcap := hto.ts.cap
  have hpcap2 := hto.ts.cap2
  have HTO := Lib.hid hto
  have HBF := Lib.hid hbf
  have HB := Lib.hid hb
  have HR : Hid (R = partsF bf 0 ((t.pts.drop 0).map Pt.p) (l.map Bt.p)) := Lib.hid (by rw [List.drop_zero]; exact hR)
  have hnz : (nn : Int) < tn := by omega
  have hnz0 : (0 : Int) ≤ nn := by omega
  obtain ⟨pn, hpn⟩ : ∃ pn, pn = t.tn := ⟨_, rfl⟩
  obtain ⟨pA, hpA⟩ : ∃ pA, pA = t.tA := ⟨_, rfl⟩
  obtain ⟨pc, hpc⟩ : ∃ pc, pc = t.tc := ⟨_, rfl⟩
  rw [← hpn, ← hpA, ← hpc] at t1
  rw [← hpn, ← hpc] at hpcap
  rw [← hpc] at hpcap2
  have HP3 := Lib.hid (And.intro hpn (And.intro hpA hpc))
  clear ht hn hb hR hto hbf hpn hpA hpc
  go_wp2_with fail
  go_loopw [10, 42] (fun av iv wx => ∃ (i : Nat) (A3 : Option Addr) (m3 c3 : Nat), i ≤ pn ∧ iv = .int .i64 i ∧ av = .slice A3 m3 c3 ∧ m3 ≤ 200 ∧ Hid (∃ l3, CnI wx w.heap.size ks A3 m3 c3 l3 ∧ R = partsF bf i ((t.pts.drop i).map Pt.p) (l3.map Bt.p)) ∧ Hid (Below w.heap.size w wx)) (fun _ iv _ => pn - (intOf iv).toNat)
  case atStart => exact ⟨0, A, m, c, Nat.zero_le _, rfl, rfl, hm, Lib.hid ⟨l, hI.out, HR.out⟩, HB⟩
  case round =>
    clear HR hI HB t0 t1 hm
    obtain ⟨i, A3, m3, c3, hi, rfl, rfl, hm3, HI, HW⟩ := hrel
    obtain ⟨l3, hI3, hR3⟩ := HI.out
    by_cases hlt : i < pn
    · obtain ⟨x, hx⟩ : ∃ x, t.pts[i]? = some x := ⟨_, List.getElem?_eq_getElem (by have := HTO.out.ts.len; have := HP3.out.1; omega)⟩
      have htw := (HTO.out.below (HW.out.mono hB)).ts
      rw [← HP3.out.1, ← HP3.out.2.1] at htw
      obtain ⟨b, o, rfl, hbb, q0, q1⟩ := htw.rd.pt hlt hx
      have hiz : (i : Int) < pn := by omega
      have hiz0 : (0 : Int) ≤ i := by omega
      obtain ⟨W1, hW1⟩ : ∃ W1, W1 = wr.alloc (.cells #[.int .i64 x.of_, .slice x.oA x.on x.oc] 46) := ⟨_, rfl⟩
      have hb1 : Below wr.heap.size wr W1 := by rw [hW1]; exact (Below.refl _ _).alloc (Nat.le_refl _) _
      have hbw1 : Below w.heap.size w W1 := HW.out.trans (hb1.mono HW.out.size)
      have hhh : Bk W1 wr.heap.size 46 #[.int .i64 x.of_, .slice x.oA x.on x.oc] := by rw [hW1]; exact Bk.new _ _ _
      have hcall := hrec.out W1 x (List.mem_of_getElem? hx) hbw1
      obtain ⟨Z, hZ⟩ : ∃ Z, Z = bf x.of_ (x.ovs.map Ov.p) := ⟨_, rfl⟩
      rw [← hZ] at hcall
      have hk1 : Kx 0 [] wr W1 := Kx.of_below hb1
      have hI1 : CnI W1 w.heap.size ks A3 m3 c3 l3 := hI3.keep hk1 (by simp) (by simp) (by simp)
      have hRx : R = (if Z.1 ≠ 0 then (Z.1, []) else if 200 < (l3.map Bt.p ++ Z.2.map fun b => ((i : Int) :: b.1, b.2)).length then (2, []) else partsF bf (i + 1) ((t.pts.drop (i + 1)).map Pt.p) (l3.map Bt.p ++ Z.2.map fun b => ((i : Int) :: b.1, b.2))) := by
        rw [hR3, List.drop_eq_getElem_cons (by have := HTO.out.ts.len; have := HP3.out.1; omega), (List.getElem?_eq_some_iff.1 hx).2, List.map_cons, partsF, hZ]; rfl
      have hZb := buildF_both (ks.map Kd.p) (ts.map Pf.p) d x.of_ (x.ovs.map Ov.p)
      rw [← HBF.out, ← hZ] at hZb
      have HCALL := Lib.hid hcall
      have HI1 := Lib.hid hI1
      have HRX := Lib.hid hRx
      have HZB := Lib.hid hZb
      have HBW1 := Lib.hid hbw1
      obtain ⟨hh, hhe⟩ : ∃ hh, hh = wr.heap.size := ⟨_, rfl⟩
      rw [← hhe] at hhh
      have z0 : W1.cell? ⟨hh, 0, none⟩ = some (.int .i64 x.of_) := hhh.cell 0
      have z1 : W1.cell? ⟨hh, 1, none⟩ = some (.slice x.oA x.on x.oc) := hhh.cell 1
      have HW1 := Lib.hid (And.intro hW1 hhe)
      clear hx htw hbb hb1 hbw1 hhh hcall hZ hk1 hI1 hRx hZb hhe hW1 hI3 hR3 HI
      go_upto_region 7 with fail
      rw [← HW1.out.1, ← HW1.out.2]
      clear q0 q1
      go_wp2_with fail
      with_reducible refine (HCALL.out).mono ?_
      clear HCALL z0 z1
      rintro e w4 ⟨hbl4, hor⟩
      have HB4 := Lib.hid hbl4
      have HBW4 : Hid (Below w.heap.size w w4) := Lib.hid (HBW1.out.trans (hbl4.mono HBW1.out.size))
      clear hbl4
      rcases hor with ⟨hz1, rfl⟩ | ⟨hz1, SA, sn, sc, sub, rfl, HSUB⟩
      · have hR1 : R.1 = Z.1 := by rw [HRX.out, if_pos hz1]
        have HP : Hid (Below w.heap.size w w4 ∧ R.1 ≠ 0 ∧ R.1 = Z.1) := Lib.hid ⟨HBW4.out, by rw [hR1]; exact hz1, hR1⟩
        have HR1 := Lib.hid hR1
        clear hR1
        go_wp2_with fail
        exact HP
      · have hsb := HSUB.out.1
        have hsl : sn ≤ 200 := by have h1 := hsb.len; have h2 := HZB.out.1; rw [← HSUB.out.2, List.length_map] at h2; omega
        have hk14 : Kx 0 [] W1 w4 := Kx.of_below HB4.out
        have HI4 : Hid (CnI w4 w.heap.size ks A3 m3 c3 l3) := Lib.hid (HI1.out.keep hk14 (by simp) (by simp) (by simp))
        have HS : Hid (CnI w4 w.heap.size ks SA sn sc sub) := Lib.hid (hsb.lower HBW1.out.size)
        have HNE : Hid (∀ q, (Value.slice SA sn sc).ownBlock = some q → (Value.slice A3 m3 c3).ownBlock ≠ some q) := Lib.hid fun q hq e => by
          have h1 := (hsb.own.lt q hq).1
          have h2 := (HI1.out.own.lt q e).2
          omega
        have HAP : Hid (∀ a ∈ bsB l3, ∀ x ∈ sub, a ∉ cmB x.cms) := Lib.hid fun a ha x hx hg => by
          have h1 := ((hsb.ok x hx).blk (List.mem_append.2 (.inr hg))).1
          have h2 := (HI1.out.blkS ha).2
          omega
        have HPL : Hid (∀ y ∈ sub, y.path.length ≤ 100) := Lib.hid fun y hy => by
          have h1 := HZB.out.2 (Bt.p y) (by rw [← HSUB.out.2]; exact List.mem_map_of_mem hy)
          have h3 : (Bt.p y).1.length = y.path.length := rfl
          omega
        have HZ1 := Lib.hid hz1
        clear hsb hk14 hz1
        go_upto_if 58 with fail
        go_step
        go_step
        go_step
        go_step
        go_step
        go_cut [10] from 60 to 78 (fun av wx => ∃ (A' : Option Addr) (c' : Nat), av = .slice A' (m3 + sn) c' ∧ Hid (Below w.heap.size w wx ∧ ∃ l4, CnI wx w.heap.size ks A' (m3 + sn) c' l4 ∧ l4.map Bt.p = l3.map Bt.p ++ sub.map fun b => under i b.p))
        case first =>
          refine ctSub_any (base := w.heap.size) rfl HBW4.out HI4 HS HNE HAP (by omega) HPL ?_
          intros
          rename_i hD
          go_wp2_with fail
          go_meet
          case rel => exact ⟨_, _, rfl, hD⟩
        case rest =>
          obtain ⟨A', c', rfl, HD⟩ := hcut
          obtain ⟨w5, rfl⟩ : ∃ q, q = wc := ⟨_, rfl⟩
          obtain ⟨hbl5, l4, hI4, hp4⟩ := HD.out
          have hp4 : l4.map Bt.p = l3.map Bt.p ++ Z.2.map fun b => ((i : Int) :: b.1, b.2) := by
            rw [hp4, ← HSUB.out.2, List.map_map]; rfl
          have hlen4 : (l3.map Bt.p ++ Z.2.map fun b => ((i : Int) :: b.1, b.2)).length = m3 + sn := by rw [← hp4, List.length_map]; exact hI4.len.symm
          by_cases h200 : 200 < m3 + sn
          · have hR1 : R.1 = 2 := by rw [HRX.out, if_neg (by rw [HZ1.out]; simp), if_pos (by rw [hlen4]; exact h200)]
            have HP : Hid (Below w.heap.size w w5 ∧ R.1 ≠ 0 ∧ R.1 = 2) := Lib.hid ⟨hbl5, by rw [hR1]; decide, hR1⟩
            have HR1 := Lib.hid hR1
            have h2z : (200 : Int) < (m3 : Int) + sn := by omega
            clear hR1 hbl5 hp4 hlen4 hI4
            go_wp2_with fail
            exact HP
          · have hRn : R = partsF bf (i + 1) ((t.pts.drop (i + 1)).map Pt.p) (l4.map Bt.p) := by rw [HRX.out, if_neg (by rw [HZ1.out]; simp), if_neg (by rw [hlen4]; exact h200), hp4]
            have HP : Hid (∃ l', CnI w5 w.heap.size ks A' (m3 + sn) c' l' ∧ R = partsF bf (i + 1) ((t.pts.drop (i + 1)).map Pt.p) (l'.map Bt.p)) := Lib.hid ⟨l4, hI4, hRn⟩
            have HBL5 := Lib.hid hbl5
            have h2z : ¬ ((200 : Int) < (m3 : Int) + sn) := by omega
            clear hbl5 hp4 hlen4 hI4 hRn
            go_wp2_with fail
            go_roundw
            case measure => simp [intOf]; omega
            case rel => exact ⟨i + 1, A', m3 + sn, c', hlt, by go_num, rfl, by omega, HP, HBL5⟩
    · obtain rfl : i = pn := by omega
      have hRe : R = (0, l3.map Bt.p) := by rw [hR3, List.drop_of_length_le (by rw [← HTO.out.ts.len, ← HP3.out.1]; exact Nat.le_refl _)]; rfl
      have HP : Hid (Below w.heap.size w wr ∧ R.1 = 0 ∧ m3 ≤ 200 ∧ ∃ l', CnI wr w.heap.size ks A3 m3 c3 l' ∧ l'.map Bt.p = R.2) := Lib.hid ⟨HW.out, by rw [hRe], hm3, l3, hI3, by rw [hRe]⟩
      clear hRe hI3 hR3
      go_wp2_with fail
      exact hN _ _ _ _ _ _ _ _ _ _ _ _ _ _ _ _ _ _ _ _ _ _ _ _ _ _ _ _ _ _ _ _ _ _ _ _ _ _ _ _ _ _ _ _ _ _ _ _ _ _ _ _ _ _ A3 m3 c3 _ HP

/-! ### Se -/
def blkB (n : Nat) : Code → Option Code
  | .block k c => if k = n then some (.block k c) else blkB n c
  | .seq a b => match blkB n a with
    | some c => some c
    | none => blkB n b
  | .loop c => blkB n c
  | .scope c => blkB n c
  | .cond _ a b => match blkB n a with
    | some c => some c
    | none => blkB n b
  | _ => none
noncomputable def ctOne : Code := (Try.f72.body.bind (blkB 9)).getD .skip
/-- The component is the one that the replacement names. -/
def Grd (x : Bt) (cm : Cm) (o : Ov) : Prop := x.path = o.path ∧ cm.k = o.K ∧ 0 ≤ o.F ∧ o.F < cm.vals.length
/-- The component with the replacement's value. -/
def Cm.hit (cm : Cm) (o : Ov) : Cm := { cm with vals := cm.vals.set o.F.toNat o.V }
def Bt.hit (x : Bt) (j : Nat) (cm : Cm) (o : Ov) : Bt := { x with cms := x.cms.set j (cm.hit o) }
theorem fitV_set {ks : List Kp2} {K : Nat} {d : Kp2} {vals : List Int} {F : Nat} {f : Fd} {V : Int} (hk : ks[K]? = some d) (hh : holdK d vals = true) (hf : d.2[F]? = some f) :
    (f.low ≤ V ∧ V < f.low + 2 ^ f.bits.toNat → fitV ks K (vals.set F V) = 0) ∧ (¬ (f.low ≤ V ∧ V < f.low + 2 ^ f.bits.toNat) → fitV ks K (vals.set F V) = 1) := by
  obtain ⟨h1, h2, h3⟩ := holdK_iff.1 hh
  have hone := h1
  have hff := one_ok h1 (List.mem_of_getElem? hf)
  have hl : (vals.set F V).length = d.2.length := by rw [List.length_set]; exact h2
  have hfit : (fitF d.1 d.2 (vals.set F V)).2 = 0 := by unfold fitF; rw [if_neg (by simp [hone]), if_neg (by simp [hl])]
  constructor
  · intro hr
    have hs := holdK_set hh hf hr.1 hr.2
    unfold holdK holdsF at hs
    simp only [Bool.and_eq_true, decide_eq_true_eq] at hs
    unfold fitV
    rw [Int.toNat_natCast, hk]
    show (if (fitF d.1 d.2 (vals.set F V)).2 ≠ 0 then _ else if _ then _ else _) = _
    rw [if_neg (by rw [hfit]; simp), if_neg (by rw [hs.2]; simp)]
  · intro hr
    unfold fitV
    rw [Int.toNat_natCast, hk]
    show (if (fitF d.1 d.2 (vals.set F V)).2 ≠ 0 then _ else if _ then _ else _) = _
    rw [if_neg (by rw [hfit]; simp), if_pos]
    intro e
    have hold : holdK d (vals.set F V) = true := by unfold holdK holdsF; simp [hfit, e]
    have h5 := (holdK_iff.1 hold).2.2 F f hf
    have hFl : F < vals.length := by rw [h2]; exact (List.getElem?_eq_some_iff.1 hf).1
    have e2 : (vals.set F V).getD F 0 = V := by rw [List.getD_eq_getElem?_getD, List.getElem?_set_self hFl]; rfl
    rw [e2] at h5
    unfold nearF at h5
    rw [if_pos hff] at h5
    have h6 : highF f = f.low + (2 ^ f.bits.toNat - 1) := by unfold highF; rw [if_pos hff]
    have h7 := pow2_one f.bits.toNat
    rw [h6] at h5
    generalize (2 : Int) ^ f.bits.toNat = M at *
    omega

theorem Int.le_of_sub_one_lt' {a b : Int} (h : a - 1 < b) : a ≤ b := by omega
theorem Int.lt_of_le_sub_one' {a b : Int} (h : a ≤ b - 1) : a < b := by omega
theorem wlm {lo M : Int} (h1 : -4294967296 ≤ lo) (h2 : lo ≤ 4294967296) (p1 : 1 ≤ M) (p2 : M ≤ 4294967296) : wrap64 M = M ∧ IntKind.i64.wrap M = M ∧ IntKind.i64.wrap (lo + M) = lo + M ∧ IntKind.i64.wrap (lo + M - 1) = lo + M - 1 :=
  ⟨wrap_small (by omega) (by omega), wrap_small2 (by omega) (by omega), wrap_small2 (by omega) (by omega), wrap_small2 (by omega) (by omega)⟩

set_option maxHeartbeats 8000000 in
theorem ctOne_any {x1 x2 x3 x4 x5 x6 x7 x8 x9 x10 x11 x12 x13 x14 x15 x16 x17 x19 x20 x22 x23 x24 x25 x26 x27 x28 x29 x30 x31 x32 x33 x34 x35 x36 x37 x38 x39 x40 x41 x42 x43 x44 x45 x46 x47 x48 x49 x50 x51 x52 x53 x54 x55 x56 x57 x58 x59 x60 x61 x62 x63 x64 x65 x66 x67 x68 x69 x70 x71 x72 x73 x74 x75 x76 x77 x78 x79 x80 x81 x82 x83 x84 x85 x86 x87 x88 x89 x90 x91 x92 x93 x94 x95 x97 x99 x100 x101 x102 x103 x104 x105 x106 x107 x108 x109 x110 x111 x112 x113 x114 x115 x116 x117 x118 x119 x120 x121 x122 x123 x124 x125 x126 x127 x128 x129 x130 x131 x132 x133 x134 x135 x136 x137 x138 x139 x140 x141 x142 x143 x144 x145 x146 x147 x148 x149 x150 x151 x152 x153 x154 x155 x156 x157 x158 x159 x160 x161 x162 x163 x164 x165 x166 x167 x168 x169 x170 x171 x172 x173 x174 x175 x176 x177 x178 : Value} {Q : Exit → Act → World → Prop} {wr : World} {B base kn kc m c i j ho hb cn cc : Nat} {kA A cA : Option Addr} {ks : List Kd} {l : List Bt} {x : Bt} {cm : Cm} {o : Ov}
    (hkd : KsOk wr B kA kn kc ks) (hone : Hid (∀ k ∈ ks, oneF k.nm k.fds = 0)) (hI : CnI wr base ks A m c l) (hx : l[i]? = some x) (hc : x.cms[j]? = some cm) (hv : VCs holdK (ks.map Kd.p) (x.cms.map Cm.p)) (hbo : Bk wr ho 158 #[.slice o.pA o.pn o.pc, .int .i64 o.K, .int .i64 o.F, .int .i64 o.V]) (hov : OvOk wr B o) (hbb : Bk wr hb 40 #[.slice x.pA x.pn x.pc, .slice x.cA x.cn x.cc]) (hB : B ≤ wr.heap.size) (hce : cA = x.cA) (hcn : cn = x.cn) (hcc : cc = x.cc) (hbase : base ≤ wr.heap.size)
    (hNo : ∀ (y22 y23 y24 y100 y101 y102 y103 y104 y105 y106 y107 y108 y109 y110 y111 y112 y113 y114 y115 y116 y117 y118 y119 y120 y121 y122 y123 y124 y125 y126 y127 y128 y129 y130 y131 y132 y133 y134 y135 y136 y137 y138 y139 y140 y141 y142 y143 y144 y145 y146 y147 y148 y149 y150 y151 y152 y153 y154 y155 y156 y157 y158 y159 y160 y161 y162 y163 y164 y165 y166 y167 y168 y169 y170 y171 : Value) (w' : World), Hid (Below wr.heap.size wr w' ∧ ¬ Grd x cm o) → Q .normal ⟨#[.slice kA kn kc, x1, x2, x3, x4, x5, x6, x7, x8, x9, x10, x11, x12, x13, x14, x15, x16, x17, .pointer (some ⟨ho, 0, none⟩), x19, x20, .pointer (some ⟨hb, 0, none⟩), y22, y23, y24, x25, x26, x27, x28, x29, x30, x31, x32, x33, x34, x35, x36, x37, x38, x39, x40, x41, x42, x43, x44, x45, x46, x47, x48, x49, x50, x51, x52, x53, x54, x55, x56, x57, x58, x59, x60, x61, x62, x63, x64, x65, x66, x67, x68, x69, x70, x71, x72, x73, x74, x75, x76, x77, x78, x79, x80, x81, x82, x83, x84, x85, x86, x87, x88, x89, x90, x91, x92, x93, x94, x95, .slice cA cn cc, x97, .int .i64 (j : Int), x99, y100, y101, y102, y103, y104, y105, y106, y107, y108, y109, y110, y111, y112, y113, y114, y115, y116, y117, y118, y119, y120, y121, y122, y123, y124, y125, y126, y127, y128, y129, y130, y131, y132, y133, y134, y135, y136, y137, y138, y139, y140, y141, y142, y143, y144, y145, y146, y147, y148, y149, y150, y151, y152, y153, y154, y155, y156, y157, y158, y159, y160, y161, y162, y163, y164, y165, y166, y167, y168, y169, y170, y171, x172, x173, x174, x175, x176, x177, x178], []⟩ w')
    (hHit : ∀ (y22 y23 y24 y100 y101 y102 y103 y104 y105 y106 y107 y108 y109 y110 y111 y112 y113 y114 y115 y116 y117 y118 y119 y120 y121 y122 y123 y124 y125 y126 y127 y128 y129 y130 y131 y132 y133 y134 y135 y136 y137 y138 y139 y140 y141 y142 y143 y144 y145 y146 y147 y148 y149 y150 y151 y152 y153 y154 y155 y156 y157 y158 y159 y160 y161 y162 y163 y164 y165 y166 y167 y168 y169 y170 y171 : Value) (w' : World), Hid (Grd x cm o ∧ fitV (ks.map Kd.p) o.K (cm.vals.set o.F.toNat o.V) = 0 ∧ CnI w' base ks A m c (l.set i (x.hit j cm o)) ∧ Kx 0 [3] wr w' ∧ Below base wr w') → Q .normal ⟨#[.slice kA kn kc, x1, x2, x3, x4, x5, x6, x7, x8, x9, x10, x11, x12, x13, x14, x15, x16, x17, .pointer (some ⟨ho, 0, none⟩), .int .i64 0, x20, .pointer (some ⟨hb, 0, none⟩), y22, y23, y24, x25, x26, x27, x28, x29, x30, x31, x32, x33, x34, x35, x36, x37, x38, x39, x40, x41, x42, x43, x44, x45, x46, x47, x48, x49, x50, x51, x52, x53, x54, x55, x56, x57, x58, x59, x60, x61, x62, x63, x64, x65, x66, x67, x68, x69, x70, x71, x72, x73, x74, x75, x76, x77, x78, x79, x80, x81, x82, x83, x84, x85, x86, x87, x88, x89, x90, x91, x92, x93, x94, x95, .slice cA cn cc, x97, .int .i64 (j : Int), x99, y100, y101, y102, y103, y104, y105, y106, y107, y108, y109, y110, y111, y112, y113, y114, y115, y116, y117, y118, y119, y120, y121, y122, y123, y124, y125, y126, y127, y128, y129, y130, y131, y132, y133, y134, y135, y136, y137, y138, y139, y140, y141, y142, y143, y144, y145, y146, y147, y148, y149, y150, y151, y152, y153, y154, y155, y156, y157, y158, y159, y160, y161, y162, y163, y164, y165, y166, y167, y168, y169, y170, y171, x172, x173, x174, x175, x176, x177, x178], []⟩ w')
    (hErr : ∀ (y22 y23 y24 y100 y101 y102 y103 y104 y105 y106 y107 y108 y109 y110 y111 y112 y113 y114 y115 y116 y117 y118 y119 y120 y121 y122 y123 y124 y125 y126 y127 y128 y129 y130 y131 y132 y133 y134 y135 y136 y137 y138 y139 y140 y141 y142 y143 y144 y145 y146 y147 y148 y149 y150 y151 y152 y153 y154 y155 y156 y157 y158 y159 y160 y161 y162 y163 y164 y165 y166 y167 y168 y169 y170 y171 : Value) (w' : World), Hid (Below wr.heap.size wr w' ∧ Grd x cm o ∧ fitV (ks.map Kd.p) o.K (cm.vals.set o.F.toNat o.V) = 1) → Q .ret ⟨#[.slice kA kn kc, x1, x2, x3, x4, x5, x6, x7, .slice none 0 0, .int .i64 1, x10, x11, x12, x13, x14, x15, x16, x17, .pointer (some ⟨ho, 0, none⟩), x19, x20, .pointer (some ⟨hb, 0, none⟩), y22, y23, y24, x25, x26, x27, x28, x29, x30, x31, x32, x33, x34, x35, x36, x37, x38, x39, x40, x41, x42, x43, x44, x45, x46, x47, x48, x49, x50, x51, x52, x53, x54, x55, x56, x57, x58, x59, x60, x61, x62, x63, x64, x65, x66, x67, x68, x69, x70, x71, x72, x73, x74, x75, x76, x77, x78, x79, x80, x81, x82, x83, x84, x85, x86, x87, x88, x89, x90, x91, x92, x93, x94, x95, .slice cA cn cc, x97, .int .i64 (j : Int), x99, y100, y101, y102, y103, y104, y105, y106, y107, y108, y109, y110, y111, y112, y113, y114, y115, y116, y117, y118, y119, y120, y121, y122, y123, y124, y125, y126, y127, y128, y129, y130, y131, y132, y133, y134, y135, y136, y137, y138, y139, y140, y141, y142, y143, y144, y145, y146, y147, y148, y149, y150, y151, y152, y153, y154, y155, y156, y157, y158, y159, y160, y161, y162, y163, y164, y165, y166, y167, y168, y169, y170, y171, x172, x173, x174, x175, x176, x177, x178], []⟩ w') :
    Code.wp Try.prog ctOne Q ⟨#[.slice kA kn kc, x1, x2, x3, x4, x5, x6, x7, x8, x9, x10, x11, x12, x13, x14, x15, x16, x17, .pointer (some ⟨ho, 0, none⟩), x19, x20, .pointer (some ⟨hb, 0, none⟩), x22, x23, x24, x25, x26, x27, x28, x29, x30, x31, x32, x33, x34, x35, x36, x37, x38, x39, x40, x41, x42, x43, x44, x45, x46, x47, x48, x49, x50, x51, x52, x53, x54, x55, x56, x57, x58, x59, x60, x61, x62, x63, x64, x65, x66, x67, x68, x69, x70, x71, x72, x73, x74, x75, x76, x77, x78, x79, x80, x81, x82, x83, x84, x85, x86, x87, x88, x89, x90, x91, x92, x93, x94, x95, .slice cA cn cc, x97, .int .i64 (j : Int), x99, x100, x101, x102, x103, x104, x105, x106, x107, x108, x109, x110, x111, x112, x113, x114, x115, x116, x117, x118, x119, x120, x121, x122, x123, x124, x125, x126, x127, x128, x129, x130, x131, x132, x133, x134, x135, x136, x137, x138, x139, x140, x141, x142, x143, x144, x145, x146, x147, x148, x149, x150, x151, x152, x153, x154, x155, x156, x157, x158, x159, x160, x161, x162, x163, x164, x165, x166, x167, x168, x169, x170, x171, x172, x173, x174, x175, x176, x177, x178], []⟩ wr := by
  conv => arg 2; whnf
  have hxm := List.mem_of_getElem? hx
  have hcm := List.mem_of_getElem? hc
  have hxY := hI.ok x hxm
  have hcY := hxY.vals cm hcm
  have hjn : j < x.cn := by have := (List.getElem?_eq_some_iff.1 hc).1; have := hxY.clen; omega
  obtain ⟨b2, o2, hA2, hb2, r0, r1⟩ := hxY.crd.rd.cm hjn hc
  obtain ⟨kk, dk, hk1, hk2, hk3⟩ := hv.ok cm.p (List.mem_map_of_mem hcm)
  have hk1 : cm.k = kk := hk1
  have hk3 : holdK dk cm.vals = true := hk3
  obtain ⟨k, hks, hkp⟩ : ∃ k, ks[kk]? = some k ∧ dk = k.p := by
    rw [List.getElem?_map] at hk2
    cases h : ks[kk]? with
    | none => rw [h] at hk2; cases hk2
    | some k => rw [h] at hk2; injection hk2 with hk2; exact ⟨k, rfl, hk2.symm⟩
  have hkn : kk < kn := by have := (List.getElem?_eq_some_iff.1 hks).1; have := hkd.len; omega
  have hkm := List.mem_of_getElem? hks
  have hfl : cm.vals.length = k.fds.length := by have := (holdK_iff.1 hk3).2.1; rw [hkp] at this; exact this
  have hjz : (j : Int) < x.cn := by omega
  have hjz0 : (0 : Int) ≤ j := by omega
  have hkz : (kk : Int) < kn := by omega
  have hkz0 : (0 : Int) ≤ kk := by omega
  obtain ⟨W1, hW1⟩ : ∃ W1, W1 = wr.alloc (.cells #[.int .i64 (kk : Int), .slice cm.A cm.n cm.c] 166) := ⟨_, rfl⟩
  obtain ⟨hh, hhe⟩ : ∃ hh, hh = wr.heap.size := ⟨_, rfl⟩
  have hb1 : Below wr.heap.size wr W1 := by rw [hW1]; exact (Below.refl _ _).alloc (Nat.le_refl _) _
  have HB1 := Lib.hid hb1
  have HH : Hid (Bk W1 hh 166 #[.int .i64 (kk : Int), .slice cm.A cm.n cm.c]) := Lib.hid (by rw [hW1, hhe]; exact Bk.new _ _ _)
  have HEQ : Hid (Calls Try.prog 27 #[.slice x.pA x.pn x.pc, .slice o.pA o.pn o.pc] W1 fun e w' => e = .returned (.bool (decide (x.path = o.path))) ∧ ∃ m, W1.drewN m = w') := by
    have hk : Kx 0 [] wr W1 := Kx.of_below hb1
    have hpo := own_cap2 hxY.pth
    exact Lib.hid (equalInts_any x.pA o.pA x.pn x.pc o.pn o.pc W1.heap.size x.path o.path W1 hxY.plen hov.len (Nat.le_trans hpo.1 hpo.2) ((RdY.of_own (B := 0) (hk.own hxY.pth (by simp))).rd) ((hov.rd.below (hb1.mono hB)).more (by have := hb1.size; omega)))
  rw [hk1] at r0
  have HW1 := Lib.hid (And.intro hW1 hhe)
  have HKF : Hid (cm.vals.length = k.fds.length ∧ ks[kk]? = some k ∧ dk = k.p ∧ cm.k = kk ∧ (ks.map Kd.p)[kk]? = some dk ∧ holdK dk cm.vals = true) := Lib.hid ⟨hfl, hks, hkp, hk1, hk2, hk3⟩
  have HCY := Lib.hid (And.intro hxm (And.intro hcm (And.intro hxY hcY)))
  have HST : Hid (∀ wz, Kx 0 [] wr wz → CnI wz base ks A m c l) := Lib.hid fun wz hz => hI.keep hz (by simp) (by simp) (by simp)
  have HXC := Lib.hid (And.intro hx hc)
  have HOV := Lib.hid hov
  have HBO := Lib.hid hbo
  have HBB := Lib.hid hbb
  have HKD := Lib.hid hkd
  have q0 : wr.cell? ⟨ho, 0, none⟩ = some (.slice o.pA o.pn o.pc) := hbo.cell 0
  have q1 : wr.cell? ⟨hb, 0, none⟩ = some (.slice x.pA x.pn x.pc) := hbb.cell 0
  have HCELL : Hid (∀ wz, Below wr.heap.size wr wz → wz.cell? ⟨ho, 0, none⟩ = some (.slice o.pA o.pn o.pc) ∧ wz.cell? ⟨ho, 1, none⟩ = some (.int .i64 o.K) ∧ wz.cell? ⟨ho, 2, none⟩ = some (.int .i64 o.F) ∧ wz.cell? ⟨ho, 3, none⟩ = some (.int .i64 o.V) ∧ wz.cell? ⟨hb, 0, none⟩ = some (.slice x.pA x.pn x.pc) ∧ wz.cell? ⟨hb, 1, none⟩ = some (.slice x.cA x.cn x.cc) ∧ wz.cell? ⟨b2, o2 + j * 2 + 1, none⟩ = some (.slice cm.A cm.n cm.c)) := Lib.hid fun wz hz => by
    have h1 := hbo.below hz hbo.lt
    have h2 := hbb.below hz hbb.lt
    exact ⟨h1.cell 0, h1.cell 1, h1.cell 2, h1.cell 3, h2.cell 0, h2.cell 1, (World.cell?_of_block (w := wr) (hz.block b2 hb2)).trans r1⟩
  have HA2 : Hid (x.cA = some ⟨b2, o2, none⟩) := Lib.hid hA2
  have hccap := hxY.ccap
  have hccap2 := hxY.ccap2
  have hkcap := hkd.cap
  have hkcap2 := hkd.cap2
  have hvn : cm.n = cm.vals.length := hcY.len
  have hwF := HOV.out.wF
  rw [hA2] at hce
  subst hce hcn hcc
  have HVN := Lib.hid hvn
  clear hvn
  clear hkd hI hx hc hv hbo hov hbb hxm hcm hxY hcY hA2 hb2 hk1 hk2 hk3 hks hkp hkm hfl hb1 hW1 hhe
  generalize x.pA = xpA at *
  generalize x.pn = xpn at *
  generalize x.pc = xpc at *
  generalize x.cn = xcn at *
  generalize x.cc = xcc at *
  generalize o.pA = opA at *
  generalize o.pn = opn at *
  generalize o.pc = opc at *
  generalize hcmA : cm.A = vA at *
  have HCMA := Lib.hid hcmA
  clear hcmA
  generalize cm.n = vn at *
  generalize cm.c = vc at *
  generalize hoK : o.K = oK at *
  generalize hoF : o.F = oF at *
  generalize hoV : o.V = oV at *
  have HOE := Lib.hid (And.intro hoK (And.intro hoF hoV))
  have HGR : Hid (Grd x cm o ↔ (x.path = o.path ∧ (kk : Int) = oK ∧ 0 ≤ oF ∧ oF < vn)) := Lib.hid (by unfold Grd; rw [hoK, hoF, HKF.out.2.2.2.1, HVN.out])
  clear hoK hoF hoV
  have HC1 := Lib.hid (HCELL.out W1 HB1.out)
  have u0 : W1.cell? ⟨ho, 0, none⟩ = some (.slice opA opn opc) := HC1.out.1
  have u1 : W1.cell? ⟨hb, 0, none⟩ = some (.slice xpA xpn xpc) := HC1.out.2.2.2.2.1
  go_upto_region 28 with fail
  rw [← HW1.out.1, ← HW1.out.2]
  clear q0 q1 r0 r1
  by_cases hp : x.path = o.path
  · have HE1 : Hid (Calls Try.prog 27 #[.slice xpA xpn xpc, .slice opA opn opc] W1 fun e w' => e = .returned (.bool true) ∧ ∃ m, W1.drewN m = w') := Lib.hid (by have h := HEQ.out; rw [decide_eq_true hp] at h; exact h)
    have HPP := Lib.hid hp
    clear HEQ hp
    go_wp2_with fail
    (with_reducible refine (HE1.out).mono ?_)
    rintro e w2 ⟨rfl, m2, rfl⟩
    have HB2 : Hid (Below wr.heap.size wr (W1.drewN m2)) := Lib.hid (below_dn HB1.out m2)
    have HH2 : Hid (Bk (W1.drewN m2) hh 166 #[.int .i64 (kk : Int), .slice vA vn vc]) := Lib.hid (HH.out.drewN m2)
    obtain ⟨W2, hW2⟩ : ∃ W2, W2 = W1.drewN m2 := ⟨_, rfl⟩
    rw [← hW2] at HB2 HH2 ⊢
    clear hW2 u0 u1 HE1
    have HC2 := Lib.hid (HCELL.out W2 HB2.out)
    have v0 : W2.cell? ⟨hh, 0, none⟩ = some (.int .i64 kk) := HH2.out.cell 0
    have v1 : W2.cell? ⟨hh, 1, none⟩ = some (.slice vA vn vc) := HH2.out.cell 1
    have v2 : W2.cell? ⟨ho, 1, none⟩ = some (.int .i64 oK) := HC2.out.2.1
    have v3 : W2.cell? ⟨ho, 2, none⟩ = some (.int .i64 oF) := HC2.out.2.2.1
    by_cases hkq : (kk : Int) = oK
    · have hkb : ((kk : Int) != oK) = false := by simp [hkq]
      by_cases hF0 : oF < 0
      · have HP : Hid (Below wr.heap.size wr W2 ∧ ¬ Grd x cm o) := Lib.hid ⟨HB2.out, fun h => by have := (HGR.out.1 h).2.2.1; omega⟩
        clear hkq
        go_wp2_with fail
        first
          | exact HP
          | exact hNo _ _ _ _ _ _ _ _ _ _ _ _ _ _ _ _ _ _ _ _ _ _ _ _ _ _ _ _ _ _ _ _ _ _ _ _ _ _ _ _ _ _ _ _ _ _ _ _ _ _ _ _ _ _ _ _ _ _ _ _ _ _ _ _ _ _ _ _ _ _ _ _ _ _ _ _ HP
      · by_cases hF1 : (vn : Int) ≤ oF
        · have HP : Hid (Below wr.heap.size wr W2 ∧ ¬ Grd x cm o) := Lib.hid ⟨HB2.out, fun h => by have := (HGR.out.1 h).2.2.2; omega⟩
          clear hkq
          go_wp2_with fail
          first
            | exact HP
            | exact hNo _ _ _ _ _ _ _ _ _ _ _ _ _ _ _ _ _ _ _ _ _ _ _ _ _ _ _ _ _ _ _ _ _ _ _ _ _ _ _ _ _ _ _ _ _ _ _ _ _ _ _ _ _ _ _ _ _ _ _ _ _ _ _ _ _ _ _ _ _ _ _ _ _ _ _ _ HP
        · obtain ⟨fn, hfn⟩ : ∃ fn : Nat, oF = fn := ⟨oF.toNat, by omega⟩
          subst hfn
          have HG : Hid (Grd x cm o) := Lib.hid (HGR.out.2 ⟨HPP.out, hkq, by omega, by omega⟩)
          have HKQ := Lib.hid hkq
          subst hkq
          have hfv : fn < vn := by omega
          have hkw := HKD.out.below (HB2.out.mono hB)
          obtain ⟨b3, o3, rfl, hbb3, _, s1⟩ := hkw.rd.kd hkn HKF.out.2.1
          have hko := hkw.ok k (List.mem_of_getElem? HKF.out.2.1)
          have hkk1 : k.n = vn := by have h1 := hko.len; have h2 := HKF.out.1; have h3 := HVN.out; omega
          obtain ⟨f, hf⟩ : ∃ f, k.fds[fn]? = some f := ⟨_, List.getElem?_eq_getElem (by have h1 := hko.len; omega)⟩
          obtain ⟨b4, o4, hA4, hbb4, f0, f1, f2⟩ := hko.rd.fd (by omega) hf
          have hfok := field_ok (one_ok (hone.out k (List.mem_of_getElem? HKF.out.2.1)) (List.mem_of_getElem? hf))
          have hkcap3 := hko.cap
          have hkcap4 := hko.cap2
          have hFV := fitV_set (V := oV) HKF.out.2.2.2.2.1 HKF.out.2.2.2.2.2 (F := fn) (f := f) (by rw [HKF.out.2.2.1]; exact hf)
          rw [hA4, hkk1] at s1
          rw [hkk1] at hkcap3
          obtain ⟨bt, hbt⟩ : ∃ bt : Nat, f.bits = bt := ⟨f.bits.toNat, by omega⟩
          have hbt2 : f.bits.toNat = bt := by omega
          rw [hbt2] at hFV
          rw [hbt] at f1 hfok
          have HFV : Hid ((f.low ≤ oV ∧ oV < f.low + 2 ^ bt → fitV (ks.map Kd.p) kk (cm.vals.set fn oV) = 0) ∧ (¬ (f.low ≤ oV ∧ oV < f.low + 2 ^ bt) → fitV (ks.map Kd.p) kk (cm.vals.set fn oV) = 1)) := Lib.hid hFV
          have p1 := pow2_one bt
          have p2 := pow2_32 bt (by omega)
          clear hFV hkw hko hf hbb3 hbb4 hA4 hkk1 hbt hbt2 HGR hk1 hk3
          generalize f.nm = fnm at *
          generalize f.low = lo at *
          generalize k.c = kc3 at *
          have hlo1 : -4294967296 ≤ lo := hfok.2.2.1
          have hlo2 : lo ≤ 4294967296 := hfok.2.2.2
          have hb32 : bt ≤ 32 := by omega
          have hb0 : (0 : Int) ≤ bt := by omega
          have hfz : (fn : Int) < vn := by omega
          have hfz0 : (0 : Int) ≤ fn := by omega
          clear hfok hF0 hF1
          have hwl := wlm hlo1 hlo2 p1 p2
          obtain ⟨M, hM⟩ : ∃ M, M = (2 : Int) ^ bt := ⟨_, rfl⟩
          rw [← hM] at p1 p2 HFV hwl
          have HFA : Hid (oV < lo → fitV (ks.map Kd.p) kk (cm.vals.set fn oV) = 1) := Lib.hid fun h => HFV.out.2 fun h2 => absurd h2.1 (Int.not_le.2 h)
          have HFB : Hid (lo + M - 1 < oV → fitV (ks.map Kd.p) kk (cm.vals.set fn oV) = 1) := Lib.hid fun h => HFV.out.2 fun h2 => absurd h2.2 (Int.not_lt.2 (Int.le_of_sub_one_lt' h))
          have HFC : Hid (lo ≤ oV → oV ≤ lo + M - 1 → fitV (ks.map Kd.p) kk (cm.vals.set fn oV) = 0) := Lib.hid fun h h3 => HFV.out.1 ⟨h, Int.lt_of_le_sub_one' h3⟩
          have hsh : wrap64 ((2 : Int) ^ bt) = M := by rw [← hM]; exact hwl.1
          have hsh2 : IntKind.i64.wrap ((2 : Int) ^ bt) = M := by rw [← hM]; exact hwl.2.1
          have hw1 : IntKind.i64.wrap (lo + M) = lo + M := hwl.2.2.1
          have hw2 : IntKind.i64.wrap (lo + M - 1) = lo + M - 1 := hwl.2.2.2
          clear hM hwl
          go_upto_region 29 with fail
          have z1 : W2.drew.cell? ⟨hh, 0, none⟩ = some (.int .i64 kk) ∧ W2.drew.cell? ⟨ho, 2, none⟩ = some (.int .i64 fn) ∧ W2.drew.cell? ⟨b3, o3 + kk * 2 + 1, none⟩ = some (.slice (some ⟨b4, o4, none⟩) vn kc3) ∧ W2.drew.cell? ⟨b4, o4 + fn * 3, none⟩ = some (.string fnm) ∧ W2.drew.cell? ⟨b4, o4 + fn * 3 + 1, none⟩ = some (.int .i64 bt) ∧ W2.drew.cell? ⟨b4, o4 + fn * 3 + 2, none⟩ = some (.int .i64 lo) := ⟨v0, v3, s1, f0, f1, f2⟩
          refine wp_region_noPanic ?_
          refine wp_region_E (S := fun wx => wx.cell? ⟨hh, 0, none⟩ = some (.int .i64 kk) ∧ wx.cell? ⟨ho, 2, none⟩ = some (.int .i64 fn) ∧ wx.cell? ⟨b3, o3 + kk * 2 + 1, none⟩ = some (.slice (some ⟨b4, o4, none⟩) vn kc3) ∧ wx.cell? ⟨b4, o4 + fn * 3, none⟩ = some (.string fnm) ∧ wx.cell? ⟨b4, o4 + fn * 3 + 1, none⟩ = some (.int .i64 bt) ∧ wx.cell? ⟨b4, o4 + fn * 3 + 2, none⟩ = some (.int .i64 lo)) (last := 12) (by kernel_rfl) ?_
          refine wpAnyE_val (i := 0) (v := .slice (some ⟨b3, o3, none⟩) kn kc) (d := some 132) rfl rfl (by kernel_rfl) (by kernel_rfl) (by kernel_rfl) (by kernel_rfl) (fun _ _ _ h => h) (Or.inl ⟨by rfl, fun w hS => by (obtain ⟨h0, h1, h2, h3, h4, h5⟩ := hS; go_simp)⟩) z1 ?_
          (try simp only [Act.put, List.setIfInBounds_toArray, List.set_cons_zero, List.set_cons_succ])
          refine wpAnyE_val (i := 1) (v := .pointer (some ⟨hh, 0, none⟩)) (d := some 133) rfl rfl (by kernel_rfl) (by kernel_rfl) (by kernel_rfl) (by kernel_rfl) (fun _ _ _ h => h) (Or.inl ⟨by rfl, fun w hS => by (obtain ⟨h0, h1, h2, h3, h4, h5⟩ := hS; go_simp)⟩) z1 ?_
          (try simp only [Act.put, List.setIfInBounds_toArray, List.set_cons_zero, List.set_cons_succ])
          refine wpAnyE_val (i := 2) (v := .int .i64 kk) (d := some 134) rfl rfl (by kernel_rfl) (by kernel_rfl) (by kernel_rfl) (by kernel_rfl) (fun _ _ _ h => h) (Or.inl ⟨by rfl, fun w hS => by (obtain ⟨h0, h1, h2, h3, h4, h5⟩ := hS; go_simp)⟩) z1 ?_
          (try simp only [Act.put, List.setIfInBounds_toArray, List.set_cons_zero, List.set_cons_succ])
          refine wpAnyE_val (i := 3) (v := .pointer (some ⟨b3, o3 + kk * 2, none⟩)) (d := some 135) rfl rfl (by kernel_rfl) (by kernel_rfl) (by kernel_rfl) (by kernel_rfl) (fun _ _ _ h => h) (Or.inl ⟨by rfl, fun w hS => by (obtain ⟨h0, h1, h2, h3, h4, h5⟩ := hS; go_simp)⟩) z1 ?_
          (try simp only [Act.put, List.setIfInBounds_toArray, List.set_cons_zero, List.set_cons_succ])
          refine wpAnyE_val (i := 4) (v := .pointer (some ⟨b3, o3 + kk * 2 + 1, none⟩)) (d := some 136) rfl rfl (by kernel_rfl) (by kernel_rfl) (by kernel_rfl) (by kernel_rfl) (fun _ _ _ h => h) (Or.inl ⟨by rfl, fun w hS => by (obtain ⟨h0, h1, h2, h3, h4, h5⟩ := hS; go_simp)⟩) z1 ?_
          (try simp only [Act.put, List.setIfInBounds_toArray, List.set_cons_zero, List.set_cons_succ])
          refine wpAnyE_val (i := 5) (v := .slice (some ⟨b4, o4, none⟩) vn kc3) (d := some 137) rfl rfl (by kernel_rfl) (by kernel_rfl) (by kernel_rfl) (by kernel_rfl) (fun _ _ _ h => h) (Or.inl ⟨by rfl, fun w hS => by (obtain ⟨h0, h1, h2, h3, h4, h5⟩ := hS; go_simp)⟩) z1 ?_
          (try simp only [Act.put, List.setIfInBounds_toArray, List.set_cons_zero, List.set_cons_succ])
          refine wpAnyE_val (i := 6) (v := .pointer (some ⟨ho, 1, none⟩)) (d := some 138) rfl rfl (by kernel_rfl) (by kernel_rfl) (by kernel_rfl) (by kernel_rfl) (fun _ _ _ h => h) (Or.inl ⟨by rfl, fun w hS => by (obtain ⟨h0, h1, h2, h3, h4, h5⟩ := hS; go_simp)⟩) z1 ?_
          (try simp only [Act.put, List.setIfInBounds_toArray, List.set_cons_zero, List.set_cons_succ])
          refine wpAnyE_val (i := 7) (v := .pointer (some ⟨ho, 2, none⟩)) (d := some 139) rfl rfl (by kernel_rfl) (by kernel_rfl) (by kernel_rfl) (by kernel_rfl) (fun _ _ _ h => h) (Or.inl ⟨by rfl, fun w hS => by (obtain ⟨h0, h1, h2, h3, h4, h5⟩ := hS; go_simp)⟩) z1 ?_
          (try simp only [Act.put, List.setIfInBounds_toArray, List.set_cons_zero, List.set_cons_succ])
          refine wpAnyE_val (i := 8) (v := .int .i64 fn) (d := some 140) rfl rfl (by kernel_rfl) (by kernel_rfl) (by kernel_rfl) (by kernel_rfl) (fun _ _ _ h => h) (Or.inl ⟨by rfl, fun w hS => by (obtain ⟨h0, h1, h2, h3, h4, h5⟩ := hS; go_simp)⟩) z1 ?_
          (try simp only [Act.put, List.setIfInBounds_toArray, List.set_cons_zero, List.set_cons_succ])
          refine wpAnyE_val (i := 9) (v := .pointer (some ⟨b4, o4 + fn * 3, none⟩)) (d := some 141) rfl rfl (by kernel_rfl) (by kernel_rfl) (by kernel_rfl) (by kernel_rfl) (fun _ _ _ h => h) (Or.inl ⟨by rfl, fun w hS => by (obtain ⟨h0, h1, h2, h3, h4, h5⟩ := hS; go_simp)⟩) z1 ?_
          (try simp only [Act.put, List.setIfInBounds_toArray, List.set_cons_zero, List.set_cons_succ])
          refine wpAnyE_val (i := 10) (v := .agg #[.string fnm, .int .i64 bt, .int .i64 lo]) (d := some 142) rfl rfl (by kernel_rfl) (by kernel_rfl) (by kernel_rfl) (by kernel_rfl) (fun _ _ _ h => h) (Or.inl ⟨by rfl, fun w hS => by (obtain ⟨h0, h1, h2, h3, h4, h5⟩ := hS; go_simp)⟩) z1 ?_
          (try simp only [Act.put, List.setIfInBounds_toArray, List.set_cons_zero, List.set_cons_succ])
          have HB3 : Hid (Below wr.heap.size wr W2.drew) := Lib.hid HB2.out.drew
          have HS3 : Hid (∀ wz, Below W2.heap.size W2 wz → wz.cell? ⟨hh, 0, none⟩ = some (.int .i64 kk) ∧ wz.cell? ⟨ho, 2, none⟩ = some (.int .i64 fn) ∧ wz.cell? ⟨b3, o3 + kk * 2 + 1, none⟩ = some (.slice (some ⟨b4, o4, none⟩) vn kc3) ∧ wz.cell? ⟨b4, o4 + fn * 3, none⟩ = some (.string fnm) ∧ wz.cell? ⟨b4, o4 + fn * 3 + 1, none⟩ = some (.int .i64 bt) ∧ wz.cell? ⟨b4, o4 + fn * 3 + 2, none⟩ = some (.int .i64 lo)) := Lib.hid fun wz hz => ⟨(World.cell?_of_block (w := W2) (hz.block hh (World.block_lt_of_cell? W2 _ v0))).trans v0, (World.cell?_of_block (w := W2) (hz.block ho (World.block_lt_of_cell? W2 _ v3))).trans v3, (World.cell?_of_block (w := W2) (hz.block b3 (World.block_lt_of_cell? W2 _ s1))).trans s1, (World.cell?_of_block (w := W2) (hz.block b4 (World.block_lt_of_cell? W2 _ f0))).trans f0, (World.cell?_of_block (w := W2) (hz.block b4 (World.block_lt_of_cell? W2 _ f0))).trans f1, (World.cell?_of_block (w := W2) (hz.block b4 (World.block_lt_of_cell? W2 _ f0))).trans f2⟩
          refine wpAnyE_one (i := 11) rfl (by kernel_rfl) rfl ?_
          go_simp
          have hb3 : Below W2.heap.size W2 (W2.alloc (.cells #[.string { data := #[] }, .int .i64 0, .int .i64 0] 66)) := (Below.refl _ _).alloc (Nat.le_refl _) _
          have hh3 : Bk (W2.alloc (.cells #[.string { data := #[] }, .int .i64 0, .int .i64 0] 66)) W2.heap.size 66 #[.string { data := #[] }, .int .i64 0, .int .i64 0] := Bk.new _ _ _
          refine And.intro (by first | exact HS3.out _ hb3 | exact HS3.out _ hb3.drew | exact HS3.out _ (((Below.refl _ _).drew).alloc (Nat.le_refl _) _)) ?_
          (try simp only [Act.put, List.setIfInBounds_toArray, List.set_cons_zero, List.set_cons_succ])
          refine wpAnyE_one (i := 12) rfl (by kernel_rfl) rfl ?_
          go_simp
          refine wpAnyE_done (by kernel_rfl) ?_ _
          refine NoPanic.normal ?_
          have hs3 : wr.heap.size ≤ W2.heap.size := HB2.out.size
          obtain ⟨W4, hW4⟩ : ∃ W4, W4 = (W2.alloc (.cells #[.string fnm, .int .i64 bt, .int .i64 lo] 66)).drew := ⟨_, rfl⟩
          have HB4 : Hid (Below wr.heap.size wr W4) := Lib.hid (by rw [hW4]; exact (HB2.out.alloc hs3 _).drew)
          have HH4 : Hid (Bk W4 W2.heap.size 66 #[.string fnm, .int .i64 bt, .int .i64 lo]) := Lib.hid (by rw [hW4]; exact (Bk.new _ _ _).drew)
          rw [← hW4]
          clear hW4 hb3 hh3 HS3 z1 v0 v1 v2 v3 s1 f0 f1 f2 HH2 HB2 HC2 HB3
          have HC4 := Lib.hid (HCELL.out W4 HB4.out)
          generalize W2.heap.size = hf at *
          go_upto_region 30 with fail
          have y1 : W4.cell? ⟨hf, 1, none⟩ = some (.int .i64 bt) := HH4.out.cell 1
          have y2 : W4.cell? ⟨hf, 2, none⟩ = some (.int .i64 lo) := HH4.out.cell 2
          have y3 : W4.cell? ⟨ho, 3, none⟩ = some (.int .i64 oV) := HC4.out.2.2.2.1
          by_cases hV0 : oV < lo
          · have t0 : decide (oV < lo) = true := decide_eq_true hV0
            have HE : Hid (Grd x cm o ∧ fitV (ks.map Kd.p) kk (cm.vals.set fn oV) = 1) := Lib.hid ⟨HG.out, HFA.out hV0⟩
            clear hV0
            go_quiet (fail)
            go_wp2_with fail
            exact Lib.hid ⟨below_dn HB4.out _, HE.out.1, HE.out.2⟩
          · by_cases hV1 : lo + M - 1 < oV
            · have t0 : decide (oV < lo) = false := decide_eq_false hV0
              have t1 : decide (lo + M - 1 < oV) = true := decide_eq_true hV1
              have HE : Hid (Grd x cm o ∧ fitV (ks.map Kd.p) kk (cm.vals.set fn oV) = 1) := Lib.hid ⟨HG.out, HFB.out hV1⟩
              clear hV0 hV1
              go_quiet (fail)
              go_wp2_with fail
              exact Lib.hid ⟨below_dn HB4.out _, HE.out.1, HE.out.2⟩
            · have t0 : decide (oV < lo) = false := decide_eq_false hV0
              have t1 : decide (lo + M - 1 < oV) = false := decide_eq_false hV1
              have HE : Hid (fitV (ks.map Kd.p) kk (cm.vals.set fn oV) = 0) := Lib.hid (HFC.out (Int.not_lt.1 hV0) (Int.not_lt.1 hV1))
              clear hV0 hV1
              obtain ⟨g, hgA, hg0, hgl, _⟩ := (HST.out wr (Kx.refl (B := 0))).store HXC.out.1 HXC.out.2 (F := fn) (by have := HVN.out; omega) oV
              have hvA : vA = some ⟨g, 0, none⟩ := by rw [← HCMA.out]; exact hgA
              subst hvA
              go_quiet (fail)
              go_upto_region 32 with fail
              have HB5 : Hid (Below wr.heap.size wr (W4.drewN nq)) := Lib.hid (below_dn HB4.out _)
              obtain ⟨W5, hW5⟩ : ∃ W5, W5 = W4.drewN nq := ⟨_, rfl⟩
              rw [← hW5] at HB5 ⊢
              clear hW5 y1 y2 y3 t0 t1 HC4
              have hc5 := HCELL.out W5 HB5.out
              rw [HA2.out] at hc5
              have n1 : W5.cell? ⟨hb, 1, none⟩ = some (.slice (some ⟨b2, o2, none⟩) xcn xcc) := hc5.2.2.2.2.2.1
              have n2 : W5.cell? ⟨b2, o2 + j * 2 + 1, none⟩ = some (.slice (some ⟨g, 0, none⟩) vn vc) := hc5.2.2.2.2.2.2
              have n3 : W5.cell? ⟨ho, 2, none⟩ = some (.int .i64 fn) := hc5.2.2.1
              have n4 : W5.cell? ⟨ho, 3, none⟩ = some (.int .i64 oV) := hc5.2.2.2.1
              clear hc5
              go_still_tail 12, (by kernel_rfl)
              change wpList _ _ _ _ _ W5.drew
              have HB6 : Hid (Below wr.heap.size wr W5.drew) := Lib.hid HB5.out.drew
              clear n1 n2 n3 n4 HB5
              generalize W5.drew = W6 at *
              have hk6 : Kx 0 [] wr W6 := Kx.of_below HB6.out
              obtain ⟨g', hgA', _, _, ⟨cs, hcs, hfc⟩, hst⟩ := (HST.out W6 hk6).store HXC.out.1 HXC.out.2 (F := fn) (by have := HVN.out; omega) oV
              have e : g' = g := by
                rw [hgA] at hgA'
                injection hgA' with h1
                injection h1 with h1
                exact h1.symm
              subst e
              obtain ⟨u, hu⟩ : ∃ u, cs[fn]? = some u := ⟨_, Array.getElem?_eq_getElem hfc⟩
              have k1 : W6.cell? ⟨g', fn, none⟩ = some u := (hcs.cell fn).trans hu
              have k2 := hcs.frozen fn
              have HP : Hid (Grd x cm o ∧ fitV (ks.map Kd.p) kk (cm.vals.set fn oV) = 0 ∧ CnI (W6.setCell ⟨g', fn, none⟩ (.int .i64 oV)) base ks A m c (l.set i (x.hit j cm o)) ∧ Kx 0 [3] wr (W6.setCell ⟨g', fn, none⟩ (.int .i64 oV)) ∧ Below base wr (W6.setCell ⟨g', fn, none⟩ (.int .i64 oV))) := Lib.hid (by
                refine ⟨HG.out, HE.out, ?_, ((Kx.refl (B := 0) (F := [3])).below HB6.out).set hcs (Nat.zero_le _) (by simp) fn _, (HB6.out.mono hbase).setCell (p := ⟨g', fn, none⟩) hg0 _⟩
                have e1 : x.hit j cm o = { x with cms := x.cms.set j { cm with vals := cm.vals.set fn oV } } := by
                  unfold Bt.hit Cm.hit
                  rw [HOE.out.2.1, HOE.out.2.2]; rfl
                rw [e1]; exact hst)
              clear hst hk6 hcs hu HB6 hgA hgA'
              go_wp2_with fail
              first
                | exact HP
                | exact hHit _ _ _ _ _ _ _ _ _ _ _ _ _ _ _ _ _ _ _ _ _ _ _ _ _ _ _ _ _ _ _ _ _ _ _ _ _ _ _ _ _ _ _ _ _ _ _ _ _ _ _ _ _ _ _ _ _ _ _ _ _ _ _ _ _ _ _ _ _ _ _ _ _ _ _ _ HP
    · have hkb : ((kk : Int) != oK) = true := by simp [hkq]
      have HP : Hid (Below wr.heap.size wr W2 ∧ ¬ Grd x cm o) := Lib.hid ⟨HB2.out, fun h => hkq (HGR.out.1 h).2.1⟩
      clear hkq
      go_wp2_with fail
      first
        | exact HP
        | exact hNo _ _ _ _ _ _ _ _ _ _ _ _ _ _ _ _ _ _ _ _ _ _ _ _ _ _ _ _ _ _ _ _ _ _ _ _ _ _ _ _ _ _ _ _ _ _ _ _ _ _ _ _ _ _ _ _ _ _ _ _ _ _ _ _ _ _ _ _ _ _ _ _ _ _ _ _ HP
  · have HE1 : Hid (Calls Try.prog 27 #[.slice xpA xpn xpc, .slice opA opn opc] W1 fun e w' => e = .returned (.bool false) ∧ ∃ m, W1.drewN m = w') := Lib.hid (by have h := HEQ.out; rw [decide_eq_false hp] at h; exact h)
    have HPP : Hid (¬ Grd x cm o) := Lib.hid fun h => hp (HGR.out.1 h).1
    clear HEQ hp
    go_wp2_with fail
    (with_reducible refine (HE1.out).mono ?_)
    rintro e w2 ⟨rfl, m2, rfl⟩
    have HP : Hid (Below wr.heap.size wr (W1.drewN m2) ∧ ¬ Grd x cm o) := Lib.hid ⟨below_dn HB1.out m2, HPP.out⟩
    clear u0 u1 HE1
    go_wp2_with fail
    first
      | exact HP
      | exact hNo _ _ _ _ _ _ _ _ _ _ _ _ _ _ _ _ _ _ _ _ _ _ _ _ _ _ _ _ _ _ _ _ _ _ _ _ _ _ _ _ _ _ _ _ _ _ _ _ _ _ _ _ _ _ _ _ _ _ _ _ _ _ _ _ _ _ _ _ _ _ _ _ _ _ _ _ HP
end Go.Proofs.Ytnidcmhfbkdioaa
