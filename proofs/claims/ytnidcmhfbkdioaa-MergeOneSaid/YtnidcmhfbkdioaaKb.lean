/-
  Fields and kinds as data; the contracts of kind.field and kind.Find. Conditions: what is read can be read.
-/
import Derived.Test.YtnidcmhfbkdioaaKa
namespace Go.Proofs.Ytnidcmhfbkdioaa
open Go.RowKit
set_option maxRecDepth 100000

theorem ba_beq_ne {a b : ByteArray} (h : a ≠ b) : (a == b) = false := by
  obtain ⟨a⟩ := a
  obtain ⟨b⟩ := b
  have h2 : a ≠ b := fun e => h (by rw [e])
  show (a == b) = false
  simp [h2]

theorem ba_tl_ne {a b : ByteArray} (h : a ≠ b) : (a.toList == b.toList) = false := by
  rw [beq_eq_false_iff_ne]
  intro e
  apply h
  obtain ⟨a⟩ := a
  obtain ⟨b⟩ := b
  simp only [ByteArray.toList_eq] at e
  congr 1
  exact Array.toList_inj.1 e

structure Fd where
  nm : ByteArray
  bits : Int
  low : Int
def Fd.cs (f : Fd) : List Value := [.string f.nm, .int .i64 f.bits, .int .i64 f.low]
def fdCs (l : List Fd) : List Value := l.flatMap Fd.cs
def fieldF (f : Fd) : Int := if nameF f.nm = true ∧ 1 ≤ f.bits ∧ f.bits ≤ 32 ∧ -4294967296 ≤ f.low ∧ f.low ≤ 4294967296 then 0 else 3
structure Kd where
  nm : ByteArray
  A : Option Addr
  n : Nat
  c : Nat
  fds : List Fd
def Kd.cs (k : Kd) : List Value := [.string k.nm, .slice k.A k.n k.c]
def kdCs (l : List Kd) : List Value := l.flatMap Kd.cs
structure KdOk (w : World) (B : Nat) (k : Kd) : Prop where
  rd : Rd w B 3 k.A k.n (fdCs k.fds)
  len : k.n = k.fds.length
  cap : k.n ≤ k.c
  cap2 : k.c ≤ 9223372036854775807
theorem KdOk.below {w w' : World} {B : Nat} {k : Kd} (h : KdOk w B k) (hb : Below B w w') : KdOk w' B k := ⟨h.rd.below hb, h.len, h.cap, h.cap2⟩
def Kd.p (k : Kd) : ByteArray × List Fd := (k.nm, k.fds)

theorem fdCs_get (l : List Fd) (k j : Nat) (f : Fd) (h : l[k]? = some f) (hj : j < 3) : (fdCs l)[k * 3 + j]? = (Fd.cs f)[j]? := by
  induction l generalizing k with
  | nil => simp at h
  | cons a l ih =>
    cases k with
    | zero =>
      simp at h; subst h
      simp only [fdCs, List.flatMap_cons, Nat.zero_mul, Nat.zero_add]
      rw [List.getElem?_append_left (by simp [Fd.cs]; omega)]
    | succ k =>
      simp at h
      have := ih k h
      simp only [fdCs, List.flatMap_cons] at this ⊢
      rw [List.getElem?_append_right (by simp [Fd.cs]; omega)]
      rw [show (k + 1) * 3 + j - (Fd.cs a).length = k * 3 + j by simp [Fd.cs]; omega]
      exact this
theorem kdCs_get (l : List Kd) (k j : Nat) (f : Kd) (h : l[k]? = some f) (hj : j < 2) : (kdCs l)[k * 2 + j]? = (Kd.cs f)[j]? := by
  induction l generalizing k with
  | nil => simp at h
  | cons a l ih =>
    cases k with
    | zero =>
      simp at h; subst h
      simp only [kdCs, List.flatMap_cons, Nat.zero_mul, Nat.zero_add]
      rw [List.getElem?_append_left (by simp [Kd.cs]; omega)]
    | succ k =>
      simp at h
      have := ih k h
      simp only [kdCs, List.flatMap_cons] at this ⊢
      rw [List.getElem?_append_right (by simp [Kd.cs]; omega)]
      rw [show (k + 1) * 2 + j - (Kd.cs a).length = k * 2 + j by simp [Kd.cs]; omega]
      exact this
/-- The cells of the element k. -/
theorem Rd.fd {w : World} {B n : Nat} {A : Option Addr} {l : List Fd} {k : Nat} {f : Fd} (h : Rd w B 3 A n (fdCs l)) (hk : k < n) (hf : l[k]? = some f) :
    ∃ b o, A = some ⟨b, o, none⟩ ∧ b < B ∧ w.cell? ⟨b, o + k * 3, none⟩ = some (.string f.nm) ∧ w.cell? ⟨b, o + k * 3 + 1, none⟩ = some (.int .i64 f.bits) ∧ w.cell? ⟨b, o + k * 3 + 2, none⟩ = some (.int .i64 f.low) := by
  obtain ⟨b, o, e, hb, hc⟩ := h.2 (by omega)
  exact ⟨b, o, e, hb, hc (k * 3) _ ((fdCs_get l k 0 f hf (by omega)).trans rfl), by rw [Nat.add_assoc]; exact hc (k * 3 + 1) _ ((fdCs_get l k 1 f hf (by omega)).trans rfl), by rw [Nat.add_assoc]; exact hc (k * 3 + 2) _ ((fdCs_get l k 2 f hf (by omega)).trans rfl)⟩
theorem Rd.kd {w : World} {B n : Nat} {A : Option Addr} {l : List Kd} {k : Nat} {f : Kd} (h : Rd w B 2 A n (kdCs l)) (hk : k < n) (hf : l[k]? = some f) :
    ∃ b o, A = some ⟨b, o, none⟩ ∧ b < B ∧ w.cell? ⟨b, o + k * 2, none⟩ = some (.string f.nm) ∧ w.cell? ⟨b, o + k * 2 + 1, none⟩ = some (.slice f.A f.n f.c) := by
  obtain ⟨b, o, e, hb, hc⟩ := h.2 (by omega)
  exact ⟨b, o, e, hb, hc (k * 2) _ ((kdCs_get l k 0 f hf (by omega)).trans rfl), by rw [Nat.add_assoc]; exact hc (k * 2 + 1) _ ((kdCs_get l k 1 f hf (by omega)).trans rfl)⟩

theorem field_any (f : Fd) (w : World) : Calls Try.prog 209 #[.agg #[.string f.nm, .int .i64 f.bits, .int .i64 f.low]] w fun e w' => e = .returned (.int .i64 (fieldF f)) ∧ Below w.heap.size w w' := by
  have HNM := Lib.hid (fun wx => name_any f.nm wx)
  obtain ⟨R, hR⟩ : ∃ R, R = fieldF f := ⟨_, rfl⟩
  have hR2 := hR
  unfold fieldF at hR
  rw [← hR2]
  generalize f.nm = nm at *
  generalize f.bits = bits at *
  generalize f.low = low at *
  have HB := Lib.hid ((Below.refl w.heap.size w).alloc (Nat.le_refl _) (.cells #[.string nm, .int .i64 bits, .int .i64 low] 66))
  have HR := Lib.hid hR
  clear hR hR2
  go_enter Try.func209, Try.ntmps209
  go_wp2_with fail
  refine (HNM.out _).mono ?_
  rintro e w1 ⟨rfl, rfl⟩
  cases hn : nameF nm
  · go_wp2_with fail
    go_ret
    rw [HR.out, if_neg (by simp [hn])]
    exact ⟨rfl, HB.out⟩
  · go_wp2_with fail
    all_goals
      go_ret
      rw [HR.out]
      first
        | (rw [if_pos ⟨hn, by omega, by omega, by omega, by omega⟩]; exact ⟨rfl, HB.out⟩)
        | (rw [if_neg (fun h => by omega)]; exact ⟨rfl, HB.out⟩)
end Go.Proofs.Ytnidcmhfbkdioaa
