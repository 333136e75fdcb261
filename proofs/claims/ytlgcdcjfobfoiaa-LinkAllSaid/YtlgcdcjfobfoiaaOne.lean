/-
  The contracts of input.one and of the closure in it. Conditions: sizes within the reach.
-/
import Derived.Test.YtlgcdcjfobfoiaaRdr
namespace Go.Proofs.Ytlgcdcjfobfoiaa
open Go.RowKit
set_option maxRecDepth 100000

/-- Only blocks g and h may have turned; nothing new. -/
structure K2 (g h : Nat) (w w' : World) : Prop where
  os : w'.os = w.os
  tape : w'.tape = w.tape
  output : w'.output = w.output
  size : w'.heap.size = w.heap.size
  block : ∀ k, k ≠ g → k ≠ h → w'.heap[k]? = w.heap[k]?
theorem K2.refl (g h : Nat) (w : World) : K2 g h w w := ⟨rfl, rfl, rfl, rfl, fun _ _ _ => rfl⟩
theorem K2.trans {g h : Nat} {a b c : World} (x : K2 g h a b) (y : K2 g h b c) : K2 g h a c :=
  ⟨y.os.trans x.os, y.tape.trans x.tape, y.output.trans x.output, y.size.trans x.size, fun k h1 h2 => (y.block k h1 h2).trans (x.block k h1 h2)⟩
theorem K2.drewN {g h : Nat} {a b : World} (x : K2 g h a b) (n : Nat) : K2 g h a (b.drewN n) := ⟨x.os, x.tape, x.output, x.size, x.block⟩
theorem K2.drew {g h : Nat} {a b : World} (x : K2 g h a b) : K2 g h a b.drew := ⟨x.os, x.tape, x.output, x.size, x.block⟩
theorem K2.set1 {g h : Nat} {a b : World} (x : K2 g h a b) (i : Nat) (u : Value) : K2 g h a (b.setCell ⟨g, i, none⟩ u) :=
  x.trans ⟨rfl, rfl, rfl, by simp [World.setCell], fun k h1 _ => Below.heap_setCell _ _ _ _ h1⟩
theorem K2.set2 {g h : Nat} {a b : World} (x : K2 g h a b) (i : Nat) (u : Value) : K2 g h a (b.setCell ⟨h, i, none⟩ u) :=
  x.trans ⟨rfl, rfl, rfl, by simp [World.setCell], fun k _ h2 => Below.heap_setCell _ _ _ _ h2⟩
theorem K2.bk {g h k : Nat} {t : TypeId} {cs : Array Value} {a b : World} (x : K2 g h a b) (hk : Bk a k t cs) (h1 : k ≠ g) (h2 : k ≠ h) : Bk b k t cs := (x.block k h1 h2).trans hk
theorem K2.below {g h B : Nat} {a b : World} (x : K2 g h a b) (h1 : B ≤ g) (h2 : B ≤ h) : Below B a b :=
  ⟨x.os, x.tape, x.output, by rw [x.size]; exact Nat.le_refl _, fun k hk => x.block k (by omega) (by omega)⟩

/-- What the reader's post leaves, in the size too. -/
def RdrIn (w : World) (base g : Nat) (l : List Nat) : Prop := ∃ p, p ≤ 8 * l.length ∧ RdrSt w base g l p

theorem RdrSt.set_ {w : World} {base g h : Nat} {l : List Nat} {p : Nat} {t : TypeId} {cs : Array Value} (hs : RdrSt w base g l p) (hk : Bk w h t cs) (h1 : t ≠ 5) (h2 : t ≠ 144) (i : Nat) (u : Value) : RdrSt (w.setCell ⟨h, i, none⟩ u) base g l p := by
  obtain ⟨A, c, b1, b2, b3⟩ := hs
  have hne : g ≠ h := Bk.ne_ b1 hk (Ne.symm h2)
  exact ⟨A, c, b1.far (p := ⟨h, i, none⟩) hne u, ownsRow_setCell_other b2 (own_ne b2 hk (Ne.symm h1)) u, by simpa [World.setCell] using b3⟩

/-- The call of the closure: 'e' holds e0; what is read is v, and 'e' holds e1 behind it. -/
def GetC (w : World) (base g eb : Nat) (l : List Nat) (v e1 : Int) (p' : Nat) (e : Ending) (w' : World) : Prop :=
  e = .returned (.int .i64 v) ∧ Bk w' eb 25 #[.int .i64 e1] ∧ RdrSt w' base g l p' ∧ K2 g eb w w'

theorem get_size {w w' : World} {g : Nat} (h : w.grownBy w' (some g)) (hs : w'.heap.size = w.heap.size) (eb : Nat) : K2 g eb w w' :=
  ⟨h.os, h.tape, h.output, hs, fun k h1 _ => by
    rcases Nat.lt_or_ge k w.heap.size with hk | hk
    · exact h.block k hk (by intro e; injection e with e; exact h1 e)
    · rw [Array.getElem?_eq_none (by omega), Array.getElem?_eq_none (by omega)]⟩

theorem valAt_small (l : List Nat) (p n : Nat) (hn : n ≤ 8) : valAt l p n < 256 := Nat.lt_of_lt_of_le (valAt_lt l p n) (Nat.pow_le_pow_right (by omega) hn)

set_option maxHeartbeats 800000 in
theorem clo_fit (g base eb rb : Nat) (l : List Nat) (p n : Nat) (w : World) (hst : RdrSt w base g l p) (hn : n ≤ 8) (hs : l.length ≤ 140737488355328) (hb : ∀ b ∈ l, b < 256)
    (hr : Bk w rb 118 #[.pointer (some ⟨g, 0, none⟩)]) (he : Bk w eb 25 #[.int .i64 0]) (hfit : p + n ≤ 8 * l.length) :
    Calls Try.prog 93 #[.int .i64 n, .pointer (some ⟨eb, 0, none⟩), .pointer (some ⟨rb, 0, none⟩)] w (GetC w base g eb l (valAt l p n) 0 (p + n)) := by
  have HG := Lib.hid (get_any g base l p n w hst (by omega) (by omega) hs hb)
  have HF := Lib.hid hfit
  have hgk : ∃ cs, Bk w g 144 cs := by obtain ⟨A, c, h1, _⟩ := hst; exact ⟨_, h1⟩
  have hv := valAt_small l p n hn
  have c0 : w.cell? ⟨rb, 0, none⟩ = some (.pointer (some ⟨g, 0, none⟩)) := hr.cell 0
  have hne : eb ≠ g := by obtain ⟨cs, h1⟩ := hgk; exact Bk.ne_ he h1 (by decide)
  clear hfit hst hb
  go_enter Try.func93, Try.ntmps93
  go_wp2_with fail
  refine HG.out.mono ?_
  rintro e w1 (⟨_, rfl, hst1, hg1, hz⟩ | ⟨hno, _⟩)
  · have he1 := he.grown hg1 (by simpa using hne)
    have HK := Lib.hid (get_size hg1 hz eb)
    clear hg1 hz
    have c1 : w1.cell? ⟨eb, 0, none⟩ = some (.int .i64 0) := he1.cell 0
    have f1 := he1.frozen 0
    generalize valAt l p n = v at *
    go_wp2_with fail
    go_ret
    exact ⟨rfl, he1.set_ 0 _, hst1.set_ he1 (by decide) (by decide) 0 _, HK.out.set2 0 _⟩
  · exact absurd HF.out hno

set_option maxHeartbeats 800000 in
theorem clo_short (g base eb rb : Nat) (l : List Nat) (p n : Nat) (w : World) (hst : RdrSt w base g l p) (hp : p ≤ 8 * l.length) (hn : n ≤ 8) (hs : l.length ≤ 140737488355328) (hb : ∀ b ∈ l, b < 256)
    (hr : Bk w rb 118 #[.pointer (some ⟨g, 0, none⟩)]) (he : Bk w eb 25 #[.int .i64 0]) (hfit : ¬ p + n ≤ 8 * l.length) :
    Calls Try.prog 93 #[.int .i64 n, .pointer (some ⟨eb, 0, none⟩), .pointer (some ⟨rb, 0, none⟩)] w (GetC w base g eb l 0 14 p) := by
  have HG := Lib.hid (get_any g base l p n w hst hp (by omega) hs hb)
  have HF := Lib.hid hfit
  have hgk : ∃ cs, Bk w g 144 cs := by obtain ⟨A, c, h1, _⟩ := hst; exact ⟨_, h1⟩
  have c0 : w.cell? ⟨rb, 0, none⟩ = some (.pointer (some ⟨g, 0, none⟩)) := hr.cell 0
  have hne : eb ≠ g := by obtain ⟨cs, h1⟩ := hgk; exact Bk.ne_ he h1 (by decide)
  clear hfit hst hb
  go_enter Try.func93, Try.ntmps93
  go_wp2_with fail
  refine HG.out.mono ?_
  rintro e w1 (⟨hno, _⟩ | ⟨_, rfl, hst1, hg1, hz⟩)
  · exact absurd hno HF.out
  · have he1 := he.grown hg1 (by simpa using hne)
    have HK := Lib.hid (get_size hg1 hz eb)
    clear hg1 hz
    have c1 : w1.cell? ⟨eb, 0, none⟩ = some (.int .i64 0) := he1.cell 0
    have f1 := he1.frozen 0
    go_wp2_with fail
    go_ret
    exact ⟨rfl, he1.set_ 0 _, hst1.set_ he1 (by decide) (by decide) 0 _, HK.out.set2 0 _⟩

set_option maxHeartbeats 800000 in
theorem clo_after (g base eb rb : Nat) (l : List Nat) (p n : Nat) (w : World) (hst : RdrSt w base g l p) (hp : p ≤ 8 * l.length) (hn : n ≤ 8) (hs : l.length ≤ 140737488355328) (hb : ∀ b ∈ l, b < 256)
    (hr : Bk w rb 118 #[.pointer (some ⟨g, 0, none⟩)]) (he : Bk w eb 25 #[.int .i64 14]) :
    Calls Try.prog 93 #[.int .i64 n, .pointer (some ⟨eb, 0, none⟩), .pointer (some ⟨rb, 0, none⟩)] w (fun e w' => ∃ v p', p' ≤ 8 * l.length ∧ 0 ≤ v ∧ v < 256 ∧ GetC w base g eb l v 14 p' e w') := by
  have HG := Lib.hid (get_any g base l p n w hst hp (by omega) hs hb)
  have hgk : ∃ cs, Bk w g 144 cs := by obtain ⟨A, c, h1, _⟩ := hst; exact ⟨_, h1⟩
  have hv := valAt_small l p n hn
  have c0 : w.cell? ⟨rb, 0, none⟩ = some (.pointer (some ⟨g, 0, none⟩)) := hr.cell 0
  have hne : eb ≠ g := by obtain ⟨cs, h1⟩ := hgk; exact Bk.ne_ he h1 (by decide)
  clear hst hb
  go_enter Try.func93, Try.ntmps93
  go_wp2_with fail
  refine HG.out.mono ?_
  rintro e w1 (⟨hfit, rfl, hst1, hg1, hz⟩ | ⟨_, rfl, hst1, hg1, hz⟩)
  · have he1 := he.grown hg1 (by simpa using hne)
    have HK := Lib.hid (get_size hg1 hz eb)
    clear hg1 hz
    have c1 : w1.cell? ⟨eb, 0, none⟩ = some (.int .i64 14) := he1.cell 0
    generalize valAt l p n = v at *
    go_wp2_with fail
    go_ret
    exact ⟨v, p + n, hfit, by omega, by omega, rfl, he1, hst1, HK.out⟩
  · have he1 := he.grown hg1 (by simpa using hne)
    have HK := Lib.hid (get_size hg1 hz eb)
    clear hg1 hz
    have c1 : w1.cell? ⟨eb, 0, none⟩ = some (.int .i64 14) := he1.cell 0
    go_wp2_with fail
    go_ret
    exact ⟨0, p, hp, by omega, by omega, rfl, he1, hst1, HK.out⟩
end Go.Proofs.Ytlgcdcjfobfoiaa
