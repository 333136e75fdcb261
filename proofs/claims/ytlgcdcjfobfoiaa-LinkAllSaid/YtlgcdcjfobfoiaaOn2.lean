/-
  The contract of input.one. Conditions: sizes within the reach; the input before is within its bounds.
-/
import Derived.Test.YtlgcdcjfobfoiaaOne
namespace Go.Proofs.Ytlgcdcjfobfoiaa
open Go.RowKit
set_option maxRecDepth 100000

/-- What 'one' reads at bit p: the input and where it ends; none: too few bits. -/
def oneAt (l : List Nat) (y : Inp) (p : Nat) : Option (Inp × Nat) :=
  if ¬ p + 1 ≤ 8 * l.length then none else
  if valAt l p 1 = 0 then some (y, p + 1) else
  if ¬ p + 9 ≤ 8 * l.length then none else
  if ¬ p + 10 ≤ 8 * l.length then none else
  if valAt l (p + 9) 1 = 0 then some (⟨((valAt l (p + 1) 8 ^^^ y.k.toNat : Nat) : Int), y.x, y.y⟩, p + 10) else
  if ¬ p + 18 ≤ 8 * l.length then none else
  if ¬ p + 26 ≤ 8 * l.length then none else
  some (⟨((valAt l (p + 1) 8 ^^^ y.k.toNat : Nat) : Int), (valAt l (p + 10) 8 : Int) - 128, (valAt l (p + 18) 8 : Int) - 128⟩, p + 26)

def OnePost (w : World) (base g : Nat) (l : List Nat) (y : Inp) (p : Nat) (e : Ending) (w' : World) : Prop :=
  ∃ (x : Inp) (err : Int), e = .returned (.tuple #[.agg #[.int .i64 x.k, .int .i64 x.x, .int .i64 x.y], .int .i64 err]) ∧ w.grownBy w' (some g) ∧
    ((oneAt l y p = none ∧ err = 14) ∨ ∃ p', oneAt l y p = some (x, p') ∧ err = 0 ∧ RdrSt w' base g l p' ∧ p' ≤ 8 * l.length)

theorem clo_fit8 {g base eb rb : Nat} {l : List Nat} {p : Nat} {w : World} (hst : RdrSt w base g l p) (hs : l.length ≤ 140737488355328) (hb : ∀ b ∈ l, b < 256)
    (hr : Bk w rb 118 #[.pointer (some ⟨g, 0, none⟩)]) (he : Bk w eb 25 #[.int .i64 0]) (hfit : p + 8 ≤ 8 * l.length) :
    Calls Try.prog 93 #[.int .i64 8, .pointer (some ⟨eb, 0, none⟩), .pointer (some ⟨rb, 0, none⟩)] w (GetC w base g eb l (valAt l p 8) 0 (p + 8)) :=
  clo_fit g base eb rb l p 8 w hst (by decide) hs hb hr he hfit
theorem clo_short8 {g base eb rb : Nat} {l : List Nat} {p : Nat} {w : World} (hst : RdrSt w base g l p) (hp : p ≤ 8 * l.length) (hs : l.length ≤ 140737488355328) (hb : ∀ b ∈ l, b < 256)
    (hr : Bk w rb 118 #[.pointer (some ⟨g, 0, none⟩)]) (he : Bk w eb 25 #[.int .i64 0]) (hfit : ¬ p + 8 ≤ 8 * l.length) :
    Calls Try.prog 93 #[.int .i64 8, .pointer (some ⟨eb, 0, none⟩), .pointer (some ⟨rb, 0, none⟩)] w (GetC w base g eb l 0 14 p) :=
  clo_short g base eb rb l p 8 w hst hp (by decide) hs hb hr he hfit

/-- What lies in memory while 'one' runs. -/
structure Loc (w W : World) (base g : Nat) (l : List Nat) (y : Inp) (p : Nat) (e0 : Int) : Prop where
  r : Bk W w.heap.size 118 #[.pointer (some ⟨g, 0, none⟩)]
  y : Bk W (w.heap.size + 1) 24 #[.int .i64 y.k, .int .i64 y.x, .int .i64 y.y]
  z : Bk W (w.heap.size + 1 + 1) 24 #[.int .i64 0, .int .i64 0, .int .i64 0]
  e : Bk W (w.heap.size + 1 + 1 + 1) 25 #[.int .i64 e0]
  st : RdrSt W base g l p
  gb : w.grownBy W (some g)

theorem Gb.k2 {w a b : World} {g eb : Nat} (h : w.grownBy a (some g)) (k : K2 g eb a b) (he : w.heap.size ≤ eb) : w.grownBy b (some g) :=
  ⟨k.os.trans h.os, k.tape.trans h.tape, k.output.trans h.output, by rw [k.size]; exact h.size, fun i hi hne => (k.block i (by intro e; exact hne (by rw [e])) (by omega)).trans (h.block i hi hne)⟩
theorem Gb.alloc {w a : World} {row : Option Nat} (h : w.grownBy a row) (o : Obj) : w.grownBy (a.alloc o) row :=
  ⟨h.os, h.tape, h.output, Nat.le_trans h.size (by simp), fun i hi hne => (Below.heap_alloc a o i (Nat.lt_of_lt_of_le hi h.size)).trans (h.block i hi hne)⟩
theorem Gb.setNew {w a : World} {row : Option Nat} (h : w.grownBy a row) {p : Addr} (hp : w.heap.size ≤ p.block) (u : Value) : w.grownBy (a.setCell p u) row :=
  ⟨h.os, h.tape, h.output, by simpa [World.setCell] using h.size, fun i hi hne => (Below.heap_setCell a p u i (by omega)).trans (h.block i hi hne)⟩
theorem RdrSt.below {w w' : World} {base g : Nat} {l : List Nat} {p : Nat} (h : RdrSt w base g l p) (hb : Below w.heap.size w w') : RdrSt w' base g l p := by
  obtain ⟨A, c, h1, h2, h3⟩ := h
  exact ⟨A, c, h1.below hb h1.lt, h2.kept (row := none) ⟨hb.os, hb.tape, hb.output, hb.size, fun k hk _ => hb.block k hk⟩ (by cases hv : (Value.slice A l.length c).ownBlock <;> simp), by have := hb.size; omega⟩
theorem RdrSt.bk {w : World} {base g : Nat} {l : List Nat} {p : Nat} (h : RdrSt w base g l p) : ∃ cs, Bk w g 144 cs := by obtain ⟨A, c, h1, _⟩ := h; exact ⟨_, h1⟩

theorem Loc.step {w W W' : World} {base g : Nat} {l : List Nat} {y : Inp} {p p' : Nat} {e0 v e1 : Int} {e : Ending} (h : Loc w W base g l y p e0) (hc : GetC W base g (w.heap.size + 1 + 1 + 1) l v e1 p' e W') : Loc w W' base g l y p' e1 := by
  obtain ⟨_, h2, h3, h4⟩ := hc
  obtain ⟨cs, hg⟩ := h.st.bk
  exact ⟨h4.bk h.r (Bk.ne_ h.r hg (by decide)) (Bk.ne_ h.r h.e (by decide)), h4.bk h.y (Bk.ne_ h.y hg (by decide)) (Bk.ne_ h.y h.e (by decide)), h4.bk h.z (Bk.ne_ h.z hg (by decide)) (Bk.ne_ h.z h.e (by decide)), h2, h3, Gb.k2 h.gb h4 (by omega)⟩
theorem Loc.keep {w W W' : World} {base g : Nat} {l : List Nat} {y : Inp} {p p' : Nat} {e0 v e1 : Int} {e : Ending} {xb : Nat} {cs : Array Value} (h : Loc w W base g l y p e0) (hc : GetC W base g (w.heap.size + 1 + 1 + 1) l v e1 p' e W') (hx : Bk W xb 24 cs) : Bk W' xb 24 cs := by
  obtain ⟨_, h2, h3, h4⟩ := hc
  obtain ⟨cs, hg⟩ := h.st.bk
  exact h4.bk hx (Bk.ne_ hx hg (by decide)) (Bk.ne_ hx h.e (by decide))
theorem Loc.alloc {w W : World} {base g : Nat} {l : List Nat} {y : Inp} {p : Nat} {e0 : Int} (h : Loc w W base g l y p e0) (o : Obj) : Loc w (W.alloc o) base g l y p e0 :=
  ⟨h.r.alloc o, h.y.alloc o, h.z.alloc o, h.e.alloc o, h.st.below ((Below.refl _ _).alloc (Nat.le_refl _) o), Gb.alloc h.gb o⟩
theorem Loc.drew {w W : World} {base g : Nat} {l : List Nat} {y : Inp} {p : Nat} {e0 : Int} (h : Loc w W base g l y p e0) : Loc w W.drew base g l y p e0 :=
  ⟨h.r, h.y, h.z, h.e, h.st, ⟨h.gb.os, h.gb.tape, h.gb.output, h.gb.size, h.gb.block⟩⟩

theorem Loc.setX {w W : World} {base g : Nat} {l : List Nat} {y : Inp} {p xb : Nat} {e0 : Int} {cs : Array Value} (h : Loc w W base g l y p e0) (hx : Bk W xb 24 cs) (h1 : w.heap.size + 1 + 1 + 1 < xb) (i : Nat) (u : Value) : Loc w (W.setCell ⟨xb, i, none⟩ u) base g l y p e0 :=
  ⟨h.r.far (p := ⟨xb, i, none⟩) (by show w.heap.size ≠ xb; omega) u, h.y.far (p := ⟨xb, i, none⟩) (by show w.heap.size + 1 ≠ xb; omega) u, h.z.far (p := ⟨xb, i, none⟩) (by show w.heap.size + 1 + 1 ≠ xb; omega) u, h.e.far (p := ⟨xb, i, none⟩) (by show w.heap.size + 1 + 1 + 1 ≠ xb; omega) u,
   h.st.set_ hx (by decide) (by decide) i u, Gb.setNew h.gb (by show w.heap.size ≤ xb; omega) u⟩

/-- The result is stored: behind it. -/
theorem Loc.fin {w W : World} {base g : Nat} {l : List Nat} {y : Inp} {p : Nat} {e0 : Int} (h : Loc w W base g l y p e0) (x : Inp) :
    Bk (((W.setCell ⟨w.heap.size + 1 + 1, 0, none⟩ (.int .i64 x.k)).setCell ⟨w.heap.size + 1 + 1, 1, none⟩ (.int .i64 x.x)).setCell ⟨w.heap.size + 1 + 1, 2, none⟩ (.int .i64 x.y)).drew (w.heap.size + 1 + 1) 24 #[.int .i64 x.k, .int .i64 x.x, .int .i64 x.y] ∧
    w.grownBy (((W.setCell ⟨w.heap.size + 1 + 1, 0, none⟩ (.int .i64 x.k)).setCell ⟨w.heap.size + 1 + 1, 1, none⟩ (.int .i64 x.x)).setCell ⟨w.heap.size + 1 + 1, 2, none⟩ (.int .i64 x.y)).drew (some g) ∧
    RdrSt (((W.setCell ⟨w.heap.size + 1 + 1, 0, none⟩ (.int .i64 x.k)).setCell ⟨w.heap.size + 1 + 1, 1, none⟩ (.int .i64 x.x)).setCell ⟨w.heap.size + 1 + 1, 2, none⟩ (.int .i64 x.y)).drew base g l p := by
  have hle : w.heap.size ≤ w.heap.size + 1 + 1 := by omega
  exact ⟨((h.z.set_ 0 _).set_ 1 _).set_ 2 _, Gb.drew (Gb.setNew (Gb.setNew (Gb.setNew h.gb hle _) hle _) hle _),
    ((h.st.set_ h.z (by decide) (by decide) 0 _).set_ (h.z.set_ 0 _) (by decide) (by decide) 1 _).set_ ((h.z.set_ 0 _).set_ 1 _) (by decide) (by decide) 2 _⟩

set_option maxHeartbeats 6400000 in
theorem one_any (g base : Nat) (l : List Nat) (y : Inp) (p : Nat) (w : World) (hst : RdrSt w base g l p) (hp : p ≤ 8 * l.length) (hs : l.length ≤ 140737488355328) (hb : ∀ b ∈ l, b < 256) (hy : ¬ y.bad) :
    Calls Try.prog 73 #[.pointer (some ⟨g, 0, none⟩), .agg #[.int .i64 y.k, .int .i64 y.x, .int .i64 y.y]] w (OnePost w base g l y p) := by
  have HB := Lib.hid hb
  simp only [Inp.bad, not_or, Int.not_lt] at hy
  obtain ⟨gy1, gy2, gy3, gy4, gy5, gy6⟩ := hy
  clear hb
  have hL : Loc w ((((w.alloc (.cells #[.pointer (some ⟨g, 0, none⟩)] 118)).alloc (.cells #[.int .i64 y.k, .int .i64 y.x, .int .i64 y.y] 24)).alloc (.cells #[.int .i64 0, .int .i64 0, .int .i64 0] 24)).alloc (.cells #[.int .i64 0] 25)) base g l y p 0 := by
    have e2 := Bk.new (w.alloc (.cells #[.pointer (some ⟨g, 0, none⟩)] 118)) 24 #[.int .i64 y.k, .int .i64 y.x, .int .i64 y.y]
    have e3 := Bk.new ((w.alloc (.cells #[.pointer (some ⟨g, 0, none⟩)] 118)).alloc (.cells #[.int .i64 y.k, .int .i64 y.x, .int .i64 y.y] 24)) 24 #[.int .i64 0, .int .i64 0, .int .i64 0]
    have e4 := Bk.new (((w.alloc (.cells #[.pointer (some ⟨g, 0, none⟩)] 118)).alloc (.cells #[.int .i64 y.k, .int .i64 y.x, .int .i64 y.y] 24)).alloc (.cells #[.int .i64 0, .int .i64 0, .int .i64 0] 24)) 25 #[.int .i64 0]
    simp only [World.size_alloc] at e2 e3 e4
    refine ⟨(((Bk.new w 118 _).alloc _).alloc _).alloc _, ((e2.alloc _).alloc _), e3.alloc _, e4, ?_, ?_⟩
    · exact hst.below (((((Below.refl _ _).alloc (Nat.le_refl _) _).alloc (by simp) _).alloc (by simp; omega) _).alloc (by simp; omega) _)
    · exact Gb.alloc (Gb.alloc (Gb.alloc (Gb.alloc (World.grownBy.refl w _) _) _) _) _
  go_enter Try.func73, Try.ntmps73
  go_wp2_with fail
  generalize ((((w.alloc (.cells #[.pointer (some ⟨g, 0, none⟩)] 118)).alloc (.cells #[.int .i64 y.k, .int .i64 y.x, .int .i64 y.y] 24)).alloc (.cells #[.int .i64 0, .int .i64 0, .int .i64 0] 24)).alloc (.cells #[.int .i64 0] 25)) = W at *
  clear hst
  by_cases h1 : p + 1 ≤ 8 * l.length
  · by_cases hv1 : valAt l p 1 = 0
    · have HO : Hid (oneAt l y p = some (y, p + 1)) := Lib.hid (by unfold oneAt; rw [if_neg (by omega), if_pos hv1])
      have hc0 := clo_fit g base _ _ l p 1 W hL.st (by decide) hs HB.out hL.r hL.e h1
      rw [hv1] at hc0
      refine hc0.mono ?_
      rintro e w1 hc
      have hL1 := hL.step hc
      obtain ⟨rfl, _⟩ := hc
      clear hL hc0 hv1
      obtain ⟨y0, y1, y2⟩ := hL1.y.inp
      have e0 := hL1.e.cell 0
      obtain ⟨z0, z1, z2⟩ := Bk.inp (i := ⟨0, 0, 0⟩) hL1.z
      simp only [] at z0 z1 z2
      have fz0 := hL1.z.frozen 0
      have fz1 := hL1.z.frozen 1
      have fz2 := hL1.z.frozen 2
      simp at e0
      go_wp2_with fail
      go_region
      go_wp2_with fail
      obtain ⟨hf, hg, hs2⟩ := hL1.fin y
      generalize (((w1.setCell ⟨w.heap.size + 1 + 1, 0, none⟩ (.int .i64 y.k)).setCell ⟨w.heap.size + 1 + 1, 1, none⟩ (.int .i64 y.x)).setCell ⟨w.heap.size + 1 + 1, 2, none⟩ (.int .i64 y.y)).drew = wf at *
      obtain ⟨f0, f1, f2⟩ := Bk.inp (i := y) hf
      refine bodyPost_ret (v := .tuple #[.agg #[.int .i64 y.k, .int .i64 y.x, .int .i64 y.y], .int .i64 0]) (by simp [results, Try.results73, go_sem, f0, f1, f2]) rfl ⟨y, 0, rfl, hg, .inr ⟨p + 1, HO.out, rfl, hs2, h1⟩⟩
    · have hv : valAt l p 1 = 1 := by have := valAt_lt l p 1; omega
      have hc0 := clo_fit g base _ _ l p 1 W hL.st (by decide) hs HB.out hL.r hL.e h1
      rw [hv] at hc0
      refine hc0.mono ?_
      rintro e w1 hc
      have hL1 := hL.step hc
      obtain ⟨rfl, _⟩ := hc
      clear hL hc0 hv
      by_cases h9 : p + 9 ≤ 8 * l.length
      · obtain ⟨y0, y1, y2⟩ := hL1.y.inp
        have e0 := hL1.e.cell 0
        simp at e0
        have h9' : p + 1 + 8 ≤ 8 * l.length := by omega
        have hK := valAt_small l (p + 1) 8 (by decide)
        obtain ⟨K, hKd⟩ : ∃ K, K = valAt l (p + 1) 8 := ⟨_, rfl⟩
        have hx := (i64_xor K y.k.toNat (by omega) (by omega)).1
        rw [Int.toNat_of_nonneg gy1] at hx
        have HKd := Lib.hid hKd
        have hLd := hL1.drew
        have hLa := (hL1.alloc (.cells #[.int .i64 0, .int .i64 0, .int .i64 0] 24)).drew
        have hXa : Bk (w1.alloc (.cells #[.int .i64 0, .int .i64 0, .int .i64 0] 24)).drew w1.heap.size 24 #[.int .i64 0, .int .i64 0, .int .i64 0] := Bk.new _ _ _
        clear hKd
        have hnx : w.heap.size + 1 ≠ w1.heap.size := by have := hL1.y.lt; omega
        go_wp2_with fail
        go_region_held3 (fun w' => w'.cell? ⟨w.heap.size + 1, 0, none⟩ = some (.int .i64 y.k) ∧ w'.cell? ⟨w.heap.size + 1, 1, none⟩ = some (.int .i64 y.x) ∧ w'.cell? ⟨w.heap.size + 1, 2, none⟩ = some (.int .i64 y.y)) (first | (with_reducible exact hLd.y.inp) | (with_reducible exact hL2.y.inp) | (with_reducible exact (hL2.y.alloc _).inp) | (with_reducible exact hLa.y.inp) | (with_reducible exact (((hL2.y.far (p := ⟨w1.heap.size, 0, none⟩) hnx _).far (p := ⟨w1.heap.size, 1, none⟩) hnx _).far (p := ⟨w1.heap.size, 2, none⟩) hnx _).inp) | go_keep)
          (first | (go_at_call 93; (with_reducible refine (clo_fit8 hLd.st hs HB.out hLd.r hLd.e h9').mono ?_); rintro e w2 hc2; have hL2 := hLd.step hc2; obtain ⟨rfl, _⟩ := hc2; rw [← HKd.out]) | (go_at_call 93; (with_reducible refine (clo_fit8 hLa.st hs HB.out hLa.r hLa.e h9').mono ?_); rintro e w2 hc2; have hL2 := hLa.step hc2; have hX2 := hLa.keep hc2 hXa; obtain ⟨xz0, xz1, xz2⟩ := Bk.inp (i := ⟨0, 0, 0⟩) hX2; have xf0 := hX2.frozen 0; have xf1 := hX2.frozen 1; have xf2 := hX2.frozen 2; obtain ⟨rfl, _⟩ := hc2; rw [← HKd.out]))
        all_goals (go_wp2_with fail)
        · have hxl : w.heap.size + 1 + 1 + 1 < w2.heap.size := hL2.e.lt
          have hL3 := hL2.alloc (.cells #[.int .i64 ((K ^^^ y.k.toNat : Nat) : Int), .int .i64 y.x, .int .i64 y.y] 24)
          have hX3 : Bk (w2.alloc (.cells #[.int .i64 ((K ^^^ y.k.toNat : Nat) : Int), .int .i64 y.x, .int .i64 y.y] 24)) w2.heap.size 24 #[.int .i64 ((K ^^^ y.k.toNat : Nat) : Int), .int .i64 y.x, .int .i64 y.y] := Bk.new _ _ _
          generalize w2.alloc (.cells #[.int .i64 ((K ^^^ y.k.toNat : Nat) : Int), .int .i64 y.x, .int .i64 y.y] 24) = W3 at *
          obtain ⟨xb, hxb⟩ : ∃ n, n = w2.heap.size := ⟨_, rfl⟩
          rw [← hxb] at hX3 hxl ⊢
          clear hxb hL2 hLd hLa hXa hL1 y0 y1 y2 e0 hnx
          by_cases h10 : p + 10 ≤ 8 * l.length
          · by_cases hv2 : valAt l (p + 9) 1 = 0
            · have HO : Hid (oneAt l y p = some (⟨((K ^^^ y.k.toNat : Nat) : Int), y.x, y.y⟩, p + 10)) := Lib.hid (by unfold oneAt; rw [if_neg (by omega), if_neg (by omega), if_neg (by omega), if_neg (by omega), if_pos hv2, HKd.out])
              have hc0 := clo_fit g base _ _ l (p + 9) 1 W3 hL3.st (by decide) hs HB.out hL3.r hL3.e h10
              rw [hv2] at hc0
              refine (hc0).mono ?_
              rintro e w4 hc4
              have hL4 := hL3.step hc4
              have hX4 := hL3.keep hc4 hX3
              obtain ⟨rfl, _⟩ := hc4
              clear hL3 hX3 hc0 hv2
              obtain ⟨y0, y1, y2⟩ := hL4.y.inp
              have e0 := hL4.e.cell 0
              obtain ⟨z0, z1, z2⟩ := Bk.inp (i := ⟨0, 0, 0⟩) hL4.z
              simp only [] at z0 z1 z2
              have fz0 := hL4.z.frozen 0
              have fz1 := hL4.z.frozen 1
              have fz2 := hL4.z.frozen 2
              simp at e0
              obtain ⟨q0, q1, q2⟩ := Bk.inp (i := ⟨((K ^^^ y.k.toNat : Nat) : Int), y.x, y.y⟩) hX4
              simp only [] at q0 q1 q2
              go_wp2_with fail
              go_region
              go_wp2_with fail
              obtain ⟨hf, hg, hs2⟩ := hL4.fin ⟨((K ^^^ y.k.toNat : Nat) : Int), y.x, y.y⟩
              generalize (((w4.setCell ⟨w.heap.size + 1 + 1, 0, none⟩ (.int .i64 ((K ^^^ y.k.toNat : Nat) : Int))).setCell ⟨w.heap.size + 1 + 1, 1, none⟩ (.int .i64 y.x)).setCell ⟨w.heap.size + 1 + 1, 2, none⟩ (.int .i64 y.y)).drew = wf at *
              obtain ⟨f0, f1, f2⟩ := Bk.inp (i := ⟨((K ^^^ y.k.toNat : Nat) : Int), y.x, y.y⟩) hf
              refine bodyPost_ret (v := .tuple #[.agg #[.int .i64 ((K ^^^ y.k.toNat : Nat) : Int), .int .i64 y.x, .int .i64 y.y], .int .i64 0]) (by simp [results, Try.results73, go_sem, f0, f1, f2]) rfl ⟨⟨((K ^^^ y.k.toNat : Nat) : Int), y.x, y.y⟩, 0, rfl, hg, .inr ⟨p + 10, HO.out, rfl, hs2, h10⟩⟩
            · have hv3 : valAt l (p + 9) 1 = 1 := by have := valAt_lt l (p + 9) 1; omega
              have hc0 := clo_fit g base _ _ l (p + 9) 1 W3 hL3.st (by decide) hs HB.out hL3.r hL3.e h10
              rw [hv3] at hc0
              refine (hc0).mono ?_
              rintro e w4 hc4
              have hL4 := hL3.step hc4
              have hX4 := hL3.keep hc4 hX3
              obtain ⟨rfl, _⟩ := hc4
              clear hL3 hX3 hc0 hv3
              have e0 := hL4.e.cell 0
              simp at e0
              go_wp2_with fail
              clear e0
              by_cases h18 : p + 18 ≤ 8 * l.length
              · obtain ⟨X1, hX1d⟩ : ∃ x, x = valAt l (p + 10) 8 := ⟨_, rfl⟩
                have hX1b := valAt_small l (p + 10) 8 (by decide)
                rw [← hX1d] at hX1b
                have HX1 := Lib.hid hX1d
                have hc5 := clo_fit g base _ _ l (p + 10) 8 w4 hL4.st (by decide) hs HB.out hL4.r hL4.e (by omega)
                rw [← hX1d] at hc5
                clear hX1d
                refine (hc5).mono ?_
                rintro e w5 hc6
                have hL5 := hL4.step hc6
                have hX5 := hL4.keep hc6 hX4
                obtain ⟨rfl, _⟩ := hc6
                clear hL4 hX4 hc5
                have g1 := hX5.frozen 1
                have g1c : w5.cell? ⟨xb, 1, none⟩ = some (.int .i64 y.x) := hX5.cell 1
                have hLs := hL5.setX hX5 hxl 1 (.int .i64 ((X1 : Int) - 128))
                have hXs := hX5.set_ 1 (.int .i64 ((X1 : Int) - 128))
                go_wp2_with fail
                generalize w5.setCell ⟨xb, 1, none⟩ (.int .i64 ((X1 : Int) - 128)) = w6 at *
                clear g1 g1c hL5 hX5
                by_cases h26 : p + 26 ≤ 8 * l.length
                · obtain ⟨X2, hX2d⟩ : ∃ x, x = valAt l (p + 18) 8 := ⟨_, rfl⟩
                  have hX2b := valAt_small l (p + 18) 8 (by decide)
                  rw [← hX2d] at hX2b
                  have HO : Hid (oneAt l y p = some (⟨((K ^^^ y.k.toNat : Nat) : Int), (X1 : Int) - 128, (X2 : Int) - 128⟩, p + 26)) := Lib.hid (by unfold oneAt; rw [if_neg (by omega), if_neg (by omega), if_neg (by omega), if_neg (by omega), if_neg hv2, if_neg (by omega), if_neg (by omega), HKd.out, HX1.out, hX2d])
                  have hc7 := clo_fit g base _ _ l (p + 18) 8 w6 hLs.st (by decide) hs HB.out hLs.r hLs.e (by omega)
                  rw [← hX2d] at hc7
                  clear hX2d
                  refine (hc7).mono ?_
                  rintro e w7 hc8
                  have hL7 := hLs.step hc8
                  have hX7 := hLs.keep hc8 hXs
                  obtain ⟨rfl, _⟩ := hc8
                  clear hLs hXs hc7
                  have g1 := hX7.frozen 2
                  have g1c : w7.cell? ⟨xb, 2, none⟩ = some (.int .i64 y.y) := hX7.cell 2
                  have hLt := hL7.setX hX7 hxl 2 (.int .i64 ((X2 : Int) - 128))
                  have hXt : Bk (w7.setCell ⟨xb, 2, none⟩ (.int .i64 ((X2 : Int) - 128))) xb 24 #[.int .i64 ((K ^^^ y.k.toNat : Nat) : Int), .int .i64 ((X1 : Int) - 128), .int .i64 ((X2 : Int) - 128)] := hX7.set_ 2 (.int .i64 ((X2 : Int) - 128))
                  have ff := hLt.e.cell 0
                  obtain ⟨q0, q1, q2⟩ := Bk.inp (i := ⟨((K ^^^ y.k.toNat : Nat) : Int), (X1 : Int) - 128, (X2 : Int) - 128⟩) hXt
                  simp only [] at q0 q1 q2
                  go_wp2_with fail
                  generalize w7.setCell ⟨xb, 2, none⟩ (.int .i64 ((X2 : Int) - 128)) = w8 at *
                  clear g1 g1c hL7 hX7 ff
                  obtain ⟨y0, y1, y2⟩ := hLt.y.inp
                  have e0 := hLt.e.cell 0
                  obtain ⟨z0, z1, z2⟩ := Bk.inp (i := ⟨0, 0, 0⟩) hLt.z
                  simp only [] at z0 z1 z2
                  have fz0 := hLt.z.frozen 0
                  have fz1 := hLt.z.frozen 1
                  have fz2 := hLt.z.frozen 2
                  simp at e0
                  go_region
                  go_wp2_with fail
                  obtain ⟨hf, hg, hs2⟩ := hLt.fin ⟨((K ^^^ y.k.toNat : Nat) : Int), (X1 : Int) - 128, (X2 : Int) - 128⟩
                  generalize (((w8.setCell ⟨w.heap.size + 1 + 1, 0, none⟩ (.int .i64 ((K ^^^ y.k.toNat : Nat) : Int))).setCell ⟨w.heap.size + 1 + 1, 1, none⟩ (.int .i64 ((X1 : Int) - 128))).setCell ⟨w.heap.size + 1 + 1, 2, none⟩ (.int .i64 ((X2 : Int) - 128))).drew = wf at *
                  obtain ⟨f0, f1, f2⟩ := Bk.inp (i := ⟨((K ^^^ y.k.toNat : Nat) : Int), (X1 : Int) - 128, (X2 : Int) - 128⟩) hf
                  refine bodyPost_ret (v := .tuple #[.agg #[.int .i64 ((K ^^^ y.k.toNat : Nat) : Int), .int .i64 ((X1 : Int) - 128), .int .i64 ((X2 : Int) - 128)], .int .i64 0]) (by simp [results, Try.results73, go_sem, f0, f1, f2]) rfl ⟨⟨((K ^^^ y.k.toNat : Nat) : Int), (X1 : Int) - 128, (X2 : Int) - 128⟩, 0, rfl, hg, .inr ⟨p + 26, HO.out, rfl, hs2, h26⟩⟩
                · have HO : Hid (oneAt l y p = none) := Lib.hid (by unfold oneAt; rw [if_neg (by omega), if_neg (by omega), if_neg (by omega), if_neg (by omega), if_neg hv2, if_neg (by omega), if_pos h26])
                  refine (clo_short g base _ _ l (p + 18) 8 w6 hLs.st (by omega) (by decide) hs HB.out hLs.r hLs.e (by omega)).mono ?_
                  rintro e w7 hc8
                  have hL7 := hLs.step hc8
                  have hX7 := hLs.keep hc8 hXs
                  obtain ⟨rfl, _⟩ := hc8
                  clear hLs hXs
                  have g1 := hX7.frozen 2
                  have g1c : w7.cell? ⟨xb, 2, none⟩ = some (.int .i64 y.y) := hX7.cell 2
                  have hLt := hL7.setX hX7 hxl 2 (.int .i64 (-128))
                  have hXt : Bk (w7.setCell ⟨xb, 2, none⟩ (.int .i64 (-128))) xb 24 #[.int .i64 ((K ^^^ y.k.toNat : Nat) : Int), .int .i64 ((X1 : Int) - 128), .int .i64 (-128)] := hX7.set_ 2 (.int .i64 (-128))
                  obtain ⟨q0, q1, q2⟩ := Bk.inp (i := ⟨((K ^^^ y.k.toNat : Nat) : Int), (X1 : Int) - 128, -128⟩) hXt
                  simp only [] at q0 q1 q2
                  go_wp2_with fail
                  generalize w7.setCell ⟨xb, 2, none⟩ (.int .i64 (-128)) = w8 at *
                  clear g1 g1c hL7 hX7
                  obtain ⟨y0, y1, y2⟩ := hLt.y.inp
                  have e0 := hLt.e.cell 0
                  obtain ⟨z0, z1, z2⟩ := Bk.inp (i := ⟨0, 0, 0⟩) hLt.z
                  simp only [] at z0 z1 z2
                  have fz0 := hLt.z.frozen 0
                  have fz1 := hLt.z.frozen 1
                  have fz2 := hLt.z.frozen 2
                  simp at e0
                  go_region
                  go_wp2_with fail
                  obtain ⟨hf, hg, hs2⟩ := hLt.fin ⟨((K ^^^ y.k.toNat : Nat) : Int), (X1 : Int) - 128, -128⟩
                  generalize (((w8.setCell ⟨w.heap.size + 1 + 1, 0, none⟩ (.int .i64 ((K ^^^ y.k.toNat : Nat) : Int))).setCell ⟨w.heap.size + 1 + 1, 1, none⟩ (.int .i64 ((X1 : Int) - 128))).setCell ⟨w.heap.size + 1 + 1, 2, none⟩ (.int .i64 (-128))).drew = wf at *
                  obtain ⟨f0, f1, f2⟩ := Bk.inp (i := ⟨((K ^^^ y.k.toNat : Nat) : Int), (X1 : Int) - 128, -128⟩) hf
                  refine bodyPost_ret (v := .tuple #[.agg #[.int .i64 ((K ^^^ y.k.toNat : Nat) : Int), .int .i64 ((X1 : Int) - 128), .int .i64 (-128)], .int .i64 14]) (by simp [results, Try.results73, go_sem, f0, f1, f2]) rfl ⟨⟨((K ^^^ y.k.toNat : Nat) : Int), (X1 : Int) - 128, -128⟩, 14, rfl, hg, .inl ⟨HO.out, rfl⟩⟩
              · have HO : Hid (oneAt l y p = none) := Lib.hid (by unfold oneAt; rw [if_neg (by omega), if_neg (by omega), if_neg (by omega), if_neg (by omega), if_neg hv2, if_pos h18])
                refine (clo_short g base _ _ l (p + 10) 8 w4 hL4.st (by omega) (by decide) hs HB.out hL4.r hL4.e (by omega)).mono ?_
                rintro e w5 hc6
                have hL5 := hL4.step hc6
                have hX5 := hL4.keep hc6 hX4
                obtain ⟨rfl, _⟩ := hc6
                clear hL4 hX4
                have g1 := hX5.frozen 1
                have g1c : w5.cell? ⟨xb, 1, none⟩ = some (.int .i64 y.x) := hX5.cell 1
                have hLs := hL5.setX hX5 hxl 1 (.int .i64 (-128))
                have hXs := hX5.set_ 1 (.int .i64 (-128))
                go_wp2_with fail
                generalize w5.setCell ⟨xb, 1, none⟩ (.int .i64 (-128)) = w6 at *
                clear g1 g1c hL5 hX5
                refine (clo_after g base _ _ l (p + 10) 8 w6 hLs.st (by omega) (by decide) hs HB.out hLs.r hLs.e).mono ?_
                rintro e w7 ⟨v7, p7, _, hv70, hv71, hc8⟩
                have hL7 := hLs.step hc8
                have hX7 := hLs.keep hc8 hXs
                obtain ⟨rfl, _⟩ := hc8
                clear hLs hXs
                have g1 := hX7.frozen 2
                have g1c : w7.cell? ⟨xb, 2, none⟩ = some (.int .i64 y.y) := hX7.cell 2
                have hLt := hL7.setX hX7 hxl 2 (.int .i64 (v7 - 128))
                have hXt : Bk (w7.setCell ⟨xb, 2, none⟩ (.int .i64 (v7 - 128))) xb 24 #[.int .i64 ((K ^^^ y.k.toNat : Nat) : Int), .int .i64 (-128), .int .i64 (v7 - 128)] := hX7.set_ 2 (.int .i64 (v7 - 128))
                obtain ⟨q0, q1, q2⟩ := Bk.inp (i := ⟨((K ^^^ y.k.toNat : Nat) : Int), -128, v7 - 128⟩) hXt
                simp only [] at q0 q1 q2
                go_wp2_with fail
                generalize w7.setCell ⟨xb, 2, none⟩ (.int .i64 (v7 - 128)) = w8 at *
                clear g1 g1c hL7 hX7
                obtain ⟨y0, y1, y2⟩ := hLt.y.inp
                have e0 := hLt.e.cell 0
                obtain ⟨z0, z1, z2⟩ := Bk.inp (i := ⟨0, 0, 0⟩) hLt.z
                simp only [] at z0 z1 z2
                have fz0 := hLt.z.frozen 0
                have fz1 := hLt.z.frozen 1
                have fz2 := hLt.z.frozen 2
                simp at e0
                go_region
                go_wp2_with fail
                obtain ⟨hf, hg, hs2⟩ := hLt.fin ⟨((K ^^^ y.k.toNat : Nat) : Int), -128, v7 - 128⟩
                generalize (((w8.setCell ⟨w.heap.size + 1 + 1, 0, none⟩ (.int .i64 ((K ^^^ y.k.toNat : Nat) : Int))).setCell ⟨w.heap.size + 1 + 1, 1, none⟩ (.int .i64 (-128))).setCell ⟨w.heap.size + 1 + 1, 2, none⟩ (.int .i64 (v7 - 128))).drew = wf at *
                obtain ⟨f0, f1, f2⟩ := Bk.inp (i := ⟨((K ^^^ y.k.toNat : Nat) : Int), -128, v7 - 128⟩) hf
                refine bodyPost_ret (v := .tuple #[.agg #[.int .i64 ((K ^^^ y.k.toNat : Nat) : Int), .int .i64 (-128), .int .i64 (v7 - 128)], .int .i64 14]) (by simp [results, Try.results73, go_sem, f0, f1, f2]) rfl ⟨⟨((K ^^^ y.k.toNat : Nat) : Int), -128, v7 - 128⟩, 14, rfl, hg, .inl ⟨HO.out, rfl⟩⟩
          · have HO : Hid (oneAt l y p = none) := Lib.hid (by unfold oneAt; rw [if_neg (by omega), if_neg (by omega), if_neg (by omega), if_pos h10])
            refine (clo_short g base _ _ l (p + 9) 1 W3 hL3.st (by omega) (by decide) hs HB.out hL3.r hL3.e (by omega)).mono ?_
            rintro e w4 hc4
            have hL4 := hL3.step hc4
            have hX4 := hL3.keep hc4 hX3
            obtain ⟨rfl, _⟩ := hc4
            clear hL3 hX3
            obtain ⟨y0, y1, y2⟩ := hL4.y.inp
            have e0 := hL4.e.cell 0
            obtain ⟨z0, z1, z2⟩ := Bk.inp (i := ⟨0, 0, 0⟩) hL4.z
            simp only [] at z0 z1 z2
            have fz0 := hL4.z.frozen 0
            have fz1 := hL4.z.frozen 1
            have fz2 := hL4.z.frozen 2
            simp at e0
            obtain ⟨q0, q1, q2⟩ := Bk.inp (i := ⟨((K ^^^ y.k.toNat : Nat) : Int), y.x, y.y⟩) hX4
            simp only [] at q0 q1 q2
            go_wp2_with fail
            go_region
            go_wp2_with fail
            obtain ⟨hf, hg, hs2⟩ := hL4.fin ⟨((K ^^^ y.k.toNat : Nat) : Int), y.x, y.y⟩
            generalize (((w4.setCell ⟨w.heap.size + 1 + 1, 0, none⟩ (.int .i64 ((K ^^^ y.k.toNat : Nat) : Int))).setCell ⟨w.heap.size + 1 + 1, 1, none⟩ (.int .i64 y.x)).setCell ⟨w.heap.size + 1 + 1, 2, none⟩ (.int .i64 y.y)).drew = wf at *
            obtain ⟨f0, f1, f2⟩ := Bk.inp (i := ⟨((K ^^^ y.k.toNat : Nat) : Int), y.x, y.y⟩) hf
            refine bodyPost_ret (v := .tuple #[.agg #[.int .i64 ((K ^^^ y.k.toNat : Nat) : Int), .int .i64 y.x, .int .i64 y.y], .int .i64 14]) (by simp [results, Try.results73, go_sem, f0, f1, f2]) rfl ⟨⟨((K ^^^ y.k.toNat : Nat) : Int), y.x, y.y⟩, 14, rfl, hg, .inl ⟨HO.out, rfl⟩⟩
        · have hxl : w.heap.size + 1 + 1 + 1 < w1.heap.size := hL1.e.lt
          have hX3 : Bk (((w2.setCell ⟨w1.heap.size, 0, none⟩ (.int .i64 ((K ^^^ y.k.toNat : Nat) : Int))).setCell ⟨w1.heap.size, 1, none⟩ (.int .i64 y.x)).setCell ⟨w1.heap.size, 2, none⟩ (.int .i64 y.y)) w1.heap.size 24 #[.int .i64 ((K ^^^ y.k.toNat : Nat) : Int), .int .i64 y.x, .int .i64 y.y] := ((hX2.set_ 0 _).set_ 1 _).set_ 2 _
          have hL3 := ((hL2.setX hX2 hxl 0 (.int .i64 ((K ^^^ y.k.toNat : Nat) : Int))).setX (hX2.set_ 0 _) hxl 1 (.int .i64 y.x)).setX ((hX2.set_ 0 _).set_ 1 _) hxl 2 (.int .i64 y.y)
          generalize ((w2.setCell ⟨w1.heap.size, 0, none⟩ (.int .i64 ((K ^^^ y.k.toNat : Nat) : Int))).setCell ⟨w1.heap.size, 1, none⟩ (.int .i64 y.x)).setCell ⟨w1.heap.size, 2, none⟩ (.int .i64 y.y) = W3 at *
          obtain ⟨xb, hxb⟩ : ∃ n, n = w1.heap.size := ⟨_, rfl⟩
          rw [← hxb] at hX3 hxl ⊢
          clear hxb hL2 hX2 hLd hLa hXa hL1 y0 y1 y2 e0 hnx xz0 xz1 xz2 xf0 xf1 xf2
          by_cases h10 : p + 10 ≤ 8 * l.length
          · by_cases hv2 : valAt l (p + 9) 1 = 0
            · have HO : Hid (oneAt l y p = some (⟨((K ^^^ y.k.toNat : Nat) : Int), y.x, y.y⟩, p + 10)) := Lib.hid (by unfold oneAt; rw [if_neg (by omega), if_neg (by omega), if_neg (by omega), if_neg (by omega), if_pos hv2, HKd.out])
              have hc0 := clo_fit g base _ _ l (p + 9) 1 W3 hL3.st (by decide) hs HB.out hL3.r hL3.e h10
              rw [hv2] at hc0
              refine (hc0).mono ?_
              rintro e w4 hc4
              have hL4 := hL3.step hc4
              have hX4 := hL3.keep hc4 hX3
              obtain ⟨rfl, _⟩ := hc4
              clear hL3 hX3 hc0 hv2
              obtain ⟨y0, y1, y2⟩ := hL4.y.inp
              have e0 := hL4.e.cell 0
              obtain ⟨z0, z1, z2⟩ := Bk.inp (i := ⟨0, 0, 0⟩) hL4.z
              simp only [] at z0 z1 z2
              have fz0 := hL4.z.frozen 0
              have fz1 := hL4.z.frozen 1
              have fz2 := hL4.z.frozen 2
              simp at e0
              obtain ⟨q0, q1, q2⟩ := Bk.inp (i := ⟨((K ^^^ y.k.toNat : Nat) : Int), y.x, y.y⟩) hX4
              simp only [] at q0 q1 q2
              go_wp2_with fail
              go_region
              go_wp2_with fail
              obtain ⟨hf, hg, hs2⟩ := hL4.fin ⟨((K ^^^ y.k.toNat : Nat) : Int), y.x, y.y⟩
              generalize (((w4.setCell ⟨w.heap.size + 1 + 1, 0, none⟩ (.int .i64 ((K ^^^ y.k.toNat : Nat) : Int))).setCell ⟨w.heap.size + 1 + 1, 1, none⟩ (.int .i64 y.x)).setCell ⟨w.heap.size + 1 + 1, 2, none⟩ (.int .i64 y.y)).drew = wf at *
              obtain ⟨f0, f1, f2⟩ := Bk.inp (i := ⟨((K ^^^ y.k.toNat : Nat) : Int), y.x, y.y⟩) hf
              refine bodyPost_ret (v := .tuple #[.agg #[.int .i64 ((K ^^^ y.k.toNat : Nat) : Int), .int .i64 y.x, .int .i64 y.y], .int .i64 0]) (by simp [results, Try.results73, go_sem, f0, f1, f2]) rfl ⟨⟨((K ^^^ y.k.toNat : Nat) : Int), y.x, y.y⟩, 0, rfl, hg, .inr ⟨p + 10, HO.out, rfl, hs2, h10⟩⟩
            · have hv3 : valAt l (p + 9) 1 = 1 := by have := valAt_lt l (p + 9) 1; omega
              have hc0 := clo_fit g base _ _ l (p + 9) 1 W3 hL3.st (by decide) hs HB.out hL3.r hL3.e h10
              rw [hv3] at hc0
              refine (hc0).mono ?_
              rintro e w4 hc4
              have hL4 := hL3.step hc4
              have hX4 := hL3.keep hc4 hX3
              obtain ⟨rfl, _⟩ := hc4
              clear hL3 hX3 hc0 hv3
              have e0 := hL4.e.cell 0
              simp at e0
              go_wp2_with fail
              clear e0
              by_cases h18 : p + 18 ≤ 8 * l.length
              · obtain ⟨X1, hX1d⟩ : ∃ x, x = valAt l (p + 10) 8 := ⟨_, rfl⟩
                have hX1b := valAt_small l (p + 10) 8 (by decide)
                rw [← hX1d] at hX1b
                have HX1 := Lib.hid hX1d
                have hc5 := clo_fit g base _ _ l (p + 10) 8 w4 hL4.st (by decide) hs HB.out hL4.r hL4.e (by omega)
                rw [← hX1d] at hc5
                clear hX1d
                refine (hc5).mono ?_
                rintro e w5 hc6
                have hL5 := hL4.step hc6
                have hX5 := hL4.keep hc6 hX4
                obtain ⟨rfl, _⟩ := hc6
                clear hL4 hX4 hc5
                have g1 := hX5.frozen 1
                have g1c : w5.cell? ⟨xb, 1, none⟩ = some (.int .i64 y.x) := hX5.cell 1
                have hLs := hL5.setX hX5 hxl 1 (.int .i64 ((X1 : Int) - 128))
                have hXs := hX5.set_ 1 (.int .i64 ((X1 : Int) - 128))
                go_wp2_with fail
                generalize w5.setCell ⟨xb, 1, none⟩ (.int .i64 ((X1 : Int) - 128)) = w6 at *
                clear g1 g1c hL5 hX5
                by_cases h26 : p + 26 ≤ 8 * l.length
                · obtain ⟨X2, hX2d⟩ : ∃ x, x = valAt l (p + 18) 8 := ⟨_, rfl⟩
                  have hX2b := valAt_small l (p + 18) 8 (by decide)
                  rw [← hX2d] at hX2b
                  have HO : Hid (oneAt l y p = some (⟨((K ^^^ y.k.toNat : Nat) : Int), (X1 : Int) - 128, (X2 : Int) - 128⟩, p + 26)) := Lib.hid (by unfold oneAt; rw [if_neg (by omega), if_neg (by omega), if_neg (by omega), if_neg (by omega), if_neg hv2, if_neg (by omega), if_neg (by omega), HKd.out, HX1.out, hX2d])
                  have hc7 := clo_fit g base _ _ l (p + 18) 8 w6 hLs.st (by decide) hs HB.out hLs.r hLs.e (by omega)
                  rw [← hX2d] at hc7
                  clear hX2d
                  refine (hc7).mono ?_
                  rintro e w7 hc8
                  have hL7 := hLs.step hc8
                  have hX7 := hLs.keep hc8 hXs
                  obtain ⟨rfl, _⟩ := hc8
                  clear hLs hXs hc7
                  have g1 := hX7.frozen 2
                  have g1c : w7.cell? ⟨xb, 2, none⟩ = some (.int .i64 y.y) := hX7.cell 2
                  have hLt := hL7.setX hX7 hxl 2 (.int .i64 ((X2 : Int) - 128))
                  have hXt : Bk (w7.setCell ⟨xb, 2, none⟩ (.int .i64 ((X2 : Int) - 128))) xb 24 #[.int .i64 ((K ^^^ y.k.toNat : Nat) : Int), .int .i64 ((X1 : Int) - 128), .int .i64 ((X2 : Int) - 128)] := hX7.set_ 2 (.int .i64 ((X2 : Int) - 128))
                  have ff := hLt.e.cell 0
                  obtain ⟨q0, q1, q2⟩ := Bk.inp (i := ⟨((K ^^^ y.k.toNat : Nat) : Int), (X1 : Int) - 128, (X2 : Int) - 128⟩) hXt
                  simp only [] at q0 q1 q2
                  go_wp2_with fail
                  generalize w7.setCell ⟨xb, 2, none⟩ (.int .i64 ((X2 : Int) - 128)) = w8 at *
                  clear g1 g1c hL7 hX7 ff
                  obtain ⟨y0, y1, y2⟩ := hLt.y.inp
                  have e0 := hLt.e.cell 0
                  obtain ⟨z0, z1, z2⟩ := Bk.inp (i := ⟨0, 0, 0⟩) hLt.z
                  simp only [] at z0 z1 z2
                  have fz0 := hLt.z.frozen 0
                  have fz1 := hLt.z.frozen 1
                  have fz2 := hLt.z.frozen 2
                  simp at e0
                  go_region
                  go_wp2_with fail
                  obtain ⟨hf, hg, hs2⟩ := hLt.fin ⟨((K ^^^ y.k.toNat : Nat) : Int), (X1 : Int) - 128, (X2 : Int) - 128⟩
                  generalize (((w8.setCell ⟨w.heap.size + 1 + 1, 0, none⟩ (.int .i64 ((K ^^^ y.k.toNat : Nat) : Int))).setCell ⟨w.heap.size + 1 + 1, 1, none⟩ (.int .i64 ((X1 : Int) - 128))).setCell ⟨w.heap.size + 1 + 1, 2, none⟩ (.int .i64 ((X2 : Int) - 128))).drew = wf at *
                  obtain ⟨f0, f1, f2⟩ := Bk.inp (i := ⟨((K ^^^ y.k.toNat : Nat) : Int), (X1 : Int) - 128, (X2 : Int) - 128⟩) hf
                  refine bodyPost_ret (v := .tuple #[.agg #[.int .i64 ((K ^^^ y.k.toNat : Nat) : Int), .int .i64 ((X1 : Int) - 128), .int .i64 ((X2 : Int) - 128)], .int .i64 0]) (by simp [results, Try.results73, go_sem, f0, f1, f2]) rfl ⟨⟨((K ^^^ y.k.toNat : Nat) : Int), (X1 : Int) - 128, (X2 : Int) - 128⟩, 0, rfl, hg, .inr ⟨p + 26, HO.out, rfl, hs2, h26⟩⟩
                · have HO : Hid (oneAt l y p = none) := Lib.hid (by unfold oneAt; rw [if_neg (by omega), if_neg (by omega), if_neg (by omega), if_neg (by omega), if_neg hv2, if_neg (by omega), if_pos h26])
                  refine (clo_short g base _ _ l (p + 18) 8 w6 hLs.st (by omega) (by decide) hs HB.out hLs.r hLs.e (by omega)).mono ?_
                  rintro e w7 hc8
                  have hL7 := hLs.step hc8
                  have hX7 := hLs.keep hc8 hXs
                  obtain ⟨rfl, _⟩ := hc8
                  clear hLs hXs
                  have g1 := hX7.frozen 2
                  have g1c : w7.cell? ⟨xb, 2, none⟩ = some (.int .i64 y.y) := hX7.cell 2
                  have hLt := hL7.setX hX7 hxl 2 (.int .i64 (-128))
                  have hXt : Bk (w7.setCell ⟨xb, 2, none⟩ (.int .i64 (-128))) xb 24 #[.int .i64 ((K ^^^ y.k.toNat : Nat) : Int), .int .i64 ((X1 : Int) - 128), .int .i64 (-128)] := hX7.set_ 2 (.int .i64 (-128))
                  obtain ⟨q0, q1, q2⟩ := Bk.inp (i := ⟨((K ^^^ y.k.toNat : Nat) : Int), (X1 : Int) - 128, -128⟩) hXt
                  simp only [] at q0 q1 q2
                  go_wp2_with fail
                  generalize w7.setCell ⟨xb, 2, none⟩ (.int .i64 (-128)) = w8 at *
                  clear g1 g1c hL7 hX7
                  obtain ⟨y0, y1, y2⟩ := hLt.y.inp
                  have e0 := hLt.e.cell 0
                  obtain ⟨z0, z1, z2⟩ := Bk.inp (i := ⟨0, 0, 0⟩) hLt.z
                  simp only [] at z0 z1 z2
                  have fz0 := hLt.z.frozen 0
                  have fz1 := hLt.z.frozen 1
                  have fz2 := hLt.z.frozen 2
                  simp at e0
                  go_region
                  go_wp2_with fail
                  obtain ⟨hf, hg, hs2⟩ := hLt.fin ⟨((K ^^^ y.k.toNat : Nat) : Int), (X1 : Int) - 128, -128⟩
                  generalize (((w8.setCell ⟨w.heap.size + 1 + 1, 0, none⟩ (.int .i64 ((K ^^^ y.k.toNat : Nat) : Int))).setCell ⟨w.heap.size + 1 + 1, 1, none⟩ (.int .i64 ((X1 : Int) - 128))).setCell ⟨w.heap.size + 1 + 1, 2, none⟩ (.int .i64 (-128))).drew = wf at *
                  obtain ⟨f0, f1, f2⟩ := Bk.inp (i := ⟨((K ^^^ y.k.toNat : Nat) : Int), (X1 : Int) - 128, -128⟩) hf
                  refine bodyPost_ret (v := .tuple #[.agg #[.int .i64 ((K ^^^ y.k.toNat : Nat) : Int), .int .i64 ((X1 : Int) - 128), .int .i64 (-128)], .int .i64 14]) (by simp [results, Try.results73, go_sem, f0, f1, f2]) rfl ⟨⟨((K ^^^ y.k.toNat : Nat) : Int), (X1 : Int) - 128, -128⟩, 14, rfl, hg, .inl ⟨HO.out, rfl⟩⟩
              · have HO : Hid (oneAt l y p = none) := Lib.hid (by unfold oneAt; rw [if_neg (by omega), if_neg (by omega), if_neg (by omega), if_neg (by omega), if_neg hv2, if_pos h18])
                refine (clo_short g base _ _ l (p + 10) 8 w4 hL4.st (by omega) (by decide) hs HB.out hL4.r hL4.e (by omega)).mono ?_
                rintro e w5 hc6
                have hL5 := hL4.step hc6
                have hX5 := hL4.keep hc6 hX4
                obtain ⟨rfl, _⟩ := hc6
                clear hL4 hX4
                have g1 := hX5.frozen 1
                have g1c : w5.cell? ⟨xb, 1, none⟩ = some (.int .i64 y.x) := hX5.cell 1
                have hLs := hL5.setX hX5 hxl 1 (.int .i64 (-128))
                have hXs := hX5.set_ 1 (.int .i64 (-128))
                go_wp2_with fail
                generalize w5.setCell ⟨xb, 1, none⟩ (.int .i64 (-128)) = w6 at *
                clear g1 g1c hL5 hX5
                refine (clo_after g base _ _ l (p + 10) 8 w6 hLs.st (by omega) (by decide) hs HB.out hLs.r hLs.e).mono ?_
                rintro e w7 ⟨v7, p7, _, hv70, hv71, hc8⟩
                have hL7 := hLs.step hc8
                have hX7 := hLs.keep hc8 hXs
                obtain ⟨rfl, _⟩ := hc8
                clear hLs hXs
                have g1 := hX7.frozen 2
                have g1c : w7.cell? ⟨xb, 2, none⟩ = some (.int .i64 y.y) := hX7.cell 2
                have hLt := hL7.setX hX7 hxl 2 (.int .i64 (v7 - 128))
                have hXt : Bk (w7.setCell ⟨xb, 2, none⟩ (.int .i64 (v7 - 128))) xb 24 #[.int .i64 ((K ^^^ y.k.toNat : Nat) : Int), .int .i64 (-128), .int .i64 (v7 - 128)] := hX7.set_ 2 (.int .i64 (v7 - 128))
                obtain ⟨q0, q1, q2⟩ := Bk.inp (i := ⟨((K ^^^ y.k.toNat : Nat) : Int), -128, v7 - 128⟩) hXt
                simp only [] at q0 q1 q2
                go_wp2_with fail
                generalize w7.setCell ⟨xb, 2, none⟩ (.int .i64 (v7 - 128)) = w8 at *
                clear g1 g1c hL7 hX7
                obtain ⟨y0, y1, y2⟩ := hLt.y.inp
                have e0 := hLt.e.cell 0
                obtain ⟨z0, z1, z2⟩ := Bk.inp (i := ⟨0, 0, 0⟩) hLt.z
                simp only [] at z0 z1 z2
                have fz0 := hLt.z.frozen 0
                have fz1 := hLt.z.frozen 1
                have fz2 := hLt.z.frozen 2
                simp at e0
                go_region
                go_wp2_with fail
                obtain ⟨hf, hg, hs2⟩ := hLt.fin ⟨((K ^^^ y.k.toNat : Nat) : Int), -128, v7 - 128⟩
                generalize (((w8.setCell ⟨w.heap.size + 1 + 1, 0, none⟩ (.int .i64 ((K ^^^ y.k.toNat : Nat) : Int))).setCell ⟨w.heap.size + 1 + 1, 1, none⟩ (.int .i64 (-128))).setCell ⟨w.heap.size + 1 + 1, 2, none⟩ (.int .i64 (v7 - 128))).drew = wf at *
                obtain ⟨f0, f1, f2⟩ := Bk.inp (i := ⟨((K ^^^ y.k.toNat : Nat) : Int), -128, v7 - 128⟩) hf
                refine bodyPost_ret (v := .tuple #[.agg #[.int .i64 ((K ^^^ y.k.toNat : Nat) : Int), .int .i64 (-128), .int .i64 (v7 - 128)], .int .i64 14]) (by simp [results, Try.results73, go_sem, f0, f1, f2]) rfl ⟨⟨((K ^^^ y.k.toNat : Nat) : Int), -128, v7 - 128⟩, 14, rfl, hg, .inl ⟨HO.out, rfl⟩⟩
          · have HO : Hid (oneAt l y p = none) := Lib.hid (by unfold oneAt; rw [if_neg (by omega), if_neg (by omega), if_neg (by omega), if_pos h10])
            refine (clo_short g base _ _ l (p + 9) 1 W3 hL3.st (by omega) (by decide) hs HB.out hL3.r hL3.e (by omega)).mono ?_
            rintro e w4 hc4
            have hL4 := hL3.step hc4
            have hX4 := hL3.keep hc4 hX3
            obtain ⟨rfl, _⟩ := hc4
            clear hL3 hX3
            obtain ⟨y0, y1, y2⟩ := hL4.y.inp
            have e0 := hL4.e.cell 0
            obtain ⟨z0, z1, z2⟩ := Bk.inp (i := ⟨0, 0, 0⟩) hL4.z
            simp only [] at z0 z1 z2
            have fz0 := hL4.z.frozen 0
            have fz1 := hL4.z.frozen 1
            have fz2 := hL4.z.frozen 2
            simp at e0
            obtain ⟨q0, q1, q2⟩ := Bk.inp (i := ⟨((K ^^^ y.k.toNat : Nat) : Int), y.x, y.y⟩) hX4
            simp only [] at q0 q1 q2
            go_wp2_with fail
            go_region
            go_wp2_with fail
            obtain ⟨hf, hg, hs2⟩ := hL4.fin ⟨((K ^^^ y.k.toNat : Nat) : Int), y.x, y.y⟩
            generalize (((w4.setCell ⟨w.heap.size + 1 + 1, 0, none⟩ (.int .i64 ((K ^^^ y.k.toNat : Nat) : Int))).setCell ⟨w.heap.size + 1 + 1, 1, none⟩ (.int .i64 y.x)).setCell ⟨w.heap.size + 1 + 1, 2, none⟩ (.int .i64 y.y)).drew = wf at *
            obtain ⟨f0, f1, f2⟩ := Bk.inp (i := ⟨((K ^^^ y.k.toNat : Nat) : Int), y.x, y.y⟩) hf
            refine bodyPost_ret (v := .tuple #[.agg #[.int .i64 ((K ^^^ y.k.toNat : Nat) : Int), .int .i64 y.x, .int .i64 y.y], .int .i64 14]) (by simp [results, Try.results73, go_sem, f0, f1, f2]) rfl ⟨⟨((K ^^^ y.k.toNat : Nat) : Int), y.x, y.y⟩, 14, rfl, hg, .inl ⟨HO.out, rfl⟩⟩
      · have HO : Hid (oneAt l y p = none) := Lib.hid (by unfold oneAt; rw [if_neg (by omega), if_neg hv1, if_pos h9])
        obtain ⟨y0, y1, y2⟩ := hL1.y.inp
        have e0 := hL1.e.cell 0
        simp at e0
        have h9' : ¬ p + 1 + 8 ≤ 8 * l.length := by omega
        obtain ⟨Z, hx⟩ : ∃ Z, Go.bits .xor .i64 0 y.k = Z := ⟨_, rfl⟩
        have hLd := hL1.drew
        have hLa := (hL1.alloc (.cells #[.int .i64 0, .int .i64 0, .int .i64 0] 24)).drew
        have hXa : Bk (w1.alloc (.cells #[.int .i64 0, .int .i64 0, .int .i64 0] 24)).drew w1.heap.size 24 #[.int .i64 0, .int .i64 0, .int .i64 0] := Bk.new _ _ _
        have hnx : w.heap.size + 1 ≠ w1.heap.size := by have := hL1.y.lt; omega
        go_wp2_with fail
        go_region_held3 (fun w' => w'.cell? ⟨w.heap.size + 1, 0, none⟩ = some (.int .i64 y.k) ∧ w'.cell? ⟨w.heap.size + 1, 1, none⟩ = some (.int .i64 y.x) ∧ w'.cell? ⟨w.heap.size + 1, 2, none⟩ = some (.int .i64 y.y)) (first | (with_reducible exact hLd.y.inp) | (with_reducible exact hL2.y.inp) | (with_reducible exact (hL2.y.alloc _).inp) | (with_reducible exact hLa.y.inp) | (with_reducible exact (((hL2.y.far (p := ⟨w1.heap.size, 0, none⟩) hnx _).far (p := ⟨w1.heap.size, 1, none⟩) hnx _).far (p := ⟨w1.heap.size, 2, none⟩) hnx _).inp) | go_keep)
          (first | (go_at_call 93; (with_reducible refine (clo_short8 hLd.st (by omega) hs HB.out hLd.r hLd.e h9').mono ?_); rintro e w2 hc2; have hL2 := hLd.step hc2; obtain ⟨rfl, _⟩ := hc2) | (go_at_call 93; (with_reducible refine (clo_short8 hLa.st (by omega) hs HB.out hLa.r hLa.e h9').mono ?_); rintro e w2 hc2; have hL2 := hLa.step hc2; have hX2 := hLa.keep hc2 hXa; obtain ⟨xz0, xz1, xz2⟩ := Bk.inp (i := ⟨0, 0, 0⟩) hX2; have xf0 := hX2.frozen 0; have xf1 := hX2.frozen 1; have xf2 := hX2.frozen 2; obtain ⟨rfl, _⟩ := hc2))
        all_goals (go_wp2_with fail)
        · have hxl : w.heap.size + 1 + 1 + 1 < w2.heap.size := hL2.e.lt
          have hL3 := hL2.alloc (.cells #[.int .i64 Z, .int .i64 y.x, .int .i64 y.y] 24)
          have hX3 : Bk (w2.alloc (.cells #[.int .i64 Z, .int .i64 y.x, .int .i64 y.y] 24)) w2.heap.size 24 #[.int .i64 Z, .int .i64 y.x, .int .i64 y.y] := Bk.new _ _ _
          generalize w2.alloc (.cells #[.int .i64 Z, .int .i64 y.x, .int .i64 y.y] 24) = W3 at *
          obtain ⟨xb, hxb⟩ : ∃ n, n = w2.heap.size := ⟨_, rfl⟩
          rw [← hxb] at hX3 hxl ⊢
          clear hxb hL2 hLd hLa hXa hL1 y0 y1 y2 e0 hnx
          refine (clo_after g base _ _ l (p + 1) 1 W3 hL3.st (by omega) (by decide) hs HB.out hL3.r hL3.e).mono ?_
          rintro e w4 ⟨v4, p4, _, hv40, hv41, hc4⟩
          have hL4 := hL3.step hc4
          have hX4 := hL3.keep hc4 hX3
          obtain ⟨rfl, _⟩ := hc4
          clear hL3 hX3
          obtain ⟨y0, y1, y2⟩ := hL4.y.inp
          have e0 := hL4.e.cell 0
          obtain ⟨z0, z1, z2⟩ := Bk.inp (i := ⟨0, 0, 0⟩) hL4.z
          simp only [] at z0 z1 z2
          have fz0 := hL4.z.frozen 0
          have fz1 := hL4.z.frozen 1
          have fz2 := hL4.z.frozen 2
          simp at e0
          obtain ⟨q0, q1, q2⟩ := Bk.inp (i := ⟨Z, y.x, y.y⟩) hX4
          simp only [] at q0 q1 q2
          go_wp2_with fail
          all_goals
            go_region
            go_wp2_with fail
            obtain ⟨hf, hg, hs2⟩ := hL4.fin ⟨Z, y.x, y.y⟩
            generalize (((w4.setCell ⟨w.heap.size + 1 + 1, 0, none⟩ (.int .i64 Z)).setCell ⟨w.heap.size + 1 + 1, 1, none⟩ (.int .i64 y.x)).setCell ⟨w.heap.size + 1 + 1, 2, none⟩ (.int .i64 y.y)).drew = wf at *
            obtain ⟨f0, f1, f2⟩ := Bk.inp (i := ⟨Z, y.x, y.y⟩) hf
            refine bodyPost_ret (v := .tuple #[.agg #[.int .i64 Z, .int .i64 y.x, .int .i64 y.y], .int .i64 14]) (by simp [results, Try.results73, go_sem, f0, f1, f2]) rfl ⟨⟨Z, y.x, y.y⟩, 14, rfl, hg, .inl ⟨HO.out, rfl⟩⟩
        · have hxl : w.heap.size + 1 + 1 + 1 < w1.heap.size := hL1.e.lt
          have hX3 : Bk (((w2.setCell ⟨w1.heap.size, 0, none⟩ (.int .i64 Z)).setCell ⟨w1.heap.size, 1, none⟩ (.int .i64 y.x)).setCell ⟨w1.heap.size, 2, none⟩ (.int .i64 y.y)) w1.heap.size 24 #[.int .i64 Z, .int .i64 y.x, .int .i64 y.y] := ((hX2.set_ 0 _).set_ 1 _).set_ 2 _
          have hL3 := ((hL2.setX hX2 hxl 0 (.int .i64 Z)).setX (hX2.set_ 0 _) hxl 1 (.int .i64 y.x)).setX ((hX2.set_ 0 _).set_ 1 _) hxl 2 (.int .i64 y.y)
          generalize ((w2.setCell ⟨w1.heap.size, 0, none⟩ (.int .i64 Z)).setCell ⟨w1.heap.size, 1, none⟩ (.int .i64 y.x)).setCell ⟨w1.heap.size, 2, none⟩ (.int .i64 y.y) = W3 at *
          obtain ⟨xb, hxb⟩ : ∃ n, n = w1.heap.size := ⟨_, rfl⟩
          rw [← hxb] at hX3 hxl ⊢
          clear hxb hL2 hX2 hLd hLa hXa hL1 y0 y1 y2 e0 hnx xz0 xz1 xz2 xf0 xf1 xf2
          refine (clo_after g base _ _ l (p + 1) 1 W3 hL3.st (by omega) (by decide) hs HB.out hL3.r hL3.e).mono ?_
          rintro e w4 ⟨v4, p4, _, hv40, hv41, hc4⟩
          have hL4 := hL3.step hc4
          have hX4 := hL3.keep hc4 hX3
          obtain ⟨rfl, _⟩ := hc4
          clear hL3 hX3
          obtain ⟨y0, y1, y2⟩ := hL4.y.inp
          have e0 := hL4.e.cell 0
          obtain ⟨z0, z1, z2⟩ := Bk.inp (i := ⟨0, 0, 0⟩) hL4.z
          simp only [] at z0 z1 z2
          have fz0 := hL4.z.frozen 0
          have fz1 := hL4.z.frozen 1
          have fz2 := hL4.z.frozen 2
          simp at e0
          obtain ⟨q0, q1, q2⟩ := Bk.inp (i := ⟨Z, y.x, y.y⟩) hX4
          simp only [] at q0 q1 q2
          go_wp2_with fail
          all_goals
            go_region
            go_wp2_with fail
            obtain ⟨hf, hg, hs2⟩ := hL4.fin ⟨Z, y.x, y.y⟩
            generalize (((w4.setCell ⟨w.heap.size + 1 + 1, 0, none⟩ (.int .i64 Z)).setCell ⟨w.heap.size + 1 + 1, 1, none⟩ (.int .i64 y.x)).setCell ⟨w.heap.size + 1 + 1, 2, none⟩ (.int .i64 y.y)).drew = wf at *
            obtain ⟨f0, f1, f2⟩ := Bk.inp (i := ⟨Z, y.x, y.y⟩) hf
            refine bodyPost_ret (v := .tuple #[.agg #[.int .i64 Z, .int .i64 y.x, .int .i64 y.y], .int .i64 14]) (by simp [results, Try.results73, go_sem, f0, f1, f2]) rfl ⟨⟨Z, y.x, y.y⟩, 14, rfl, hg, .inl ⟨HO.out, rfl⟩⟩
  · have HO : Hid (oneAt l y p = none) := Lib.hid (by unfold oneAt; rw [if_pos h1])
    refine (clo_short g base _ _ l p 1 W hL.st hp (by decide) hs HB.out hL.r hL.e h1).mono ?_
    rintro e w1 hc
    have hL1 := hL.step hc
    obtain ⟨rfl, _⟩ := hc
    clear h1 hL
    obtain ⟨y0, y1, y2⟩ := hL1.y.inp
    have e0 := hL1.e.cell 0
    obtain ⟨z0, z1, z2⟩ := Bk.inp (i := ⟨0, 0, 0⟩) hL1.z
    simp only [] at z0 z1 z2
    have fz0 := hL1.z.frozen 0
    have fz1 := hL1.z.frozen 1
    have fz2 := hL1.z.frozen 2
    simp at e0
    go_wp2_with fail
    go_region
    go_wp2_with fail
    obtain ⟨hf, hg, hs2⟩ := hL1.fin y
    generalize (((w1.setCell ⟨w.heap.size + 1 + 1, 0, none⟩ (.int .i64 y.k)).setCell ⟨w.heap.size + 1 + 1, 1, none⟩ (.int .i64 y.x)).setCell ⟨w.heap.size + 1 + 1, 2, none⟩ (.int .i64 y.y)).drew = wf at *
    obtain ⟨f0, f1, f2⟩ := Bk.inp (i := y) hf
    refine bodyPost_ret (v := .tuple #[.agg #[.int .i64 y.k, .int .i64 y.x, .int .i64 y.y], .int .i64 14]) (by simp [results, Try.results73, go_sem, f0, f1, f2]) rfl ⟨y, 14, rfl, hg, .inl ⟨HO.out, rfl⟩⟩
end Go.Proofs.Ytlgcdcjfobfoiaa
