/-
  The contract of slices.Equal of clashes, at the same list twice. Conditions: what is read can be read.
-/
import Derived.Test.YtnidcmhfbkdioaaMn
namespace Go.Proofs.Ytnidcmhfbkdioaa
open Go.RowKit
set_option maxRecDepth 100000

theorem clCs_get (l : List Cl) (k j : Nat) (f : Cl) (h : l[k]? = some f) (hj : j < 4) : (clCs l)[k * 4 + j]? = (clC f)[j]? := by
  induction l generalizing k with
  | nil => simp at h
  | cons a l ih =>
    have e : clCs (a :: l) = clC a ++ clCs l := by simp [clCs]
    rw [e]
    cases k with
    | zero =>
      have ea : a = f := by simpa using h
      subst ea
      rw [List.getElem?_append_left (by simp [clC]; omega)]
      congr 1; omega
    | succ k =>
      rw [List.getElem?_append_right (by simp [clC]; omega)]
      rw [show (k + 1) * 4 + j - (clC a).length = k * 4 + j by simp [clC]; omega]
      exact ih k (by simpa using h)
theorem Rd.cl {w : World} {B n : Nat} {A : Option Addr} {l : List Cl} {k : Nat} {f : Cl} (h : Rd w B 4 A n (clCs l)) (hk : k < n) (hf : l[k]? = some f) :
    ∃ b o, A = some ⟨b, o, none⟩ ∧ b < B ∧ w.cell? ⟨b, o + k * 4, none⟩ = some (.int .i64 f.1) ∧ w.cell? ⟨b, o + k * 4 + 1, none⟩ = some (.int .i64 f.2.1) ∧ w.cell? ⟨b, o + k * 4 + 2, none⟩ = some (.int .i64 f.2.2.1) ∧ w.cell? ⟨b, o + k * 4 + 3, none⟩ = some (.int .i64 f.2.2.2) := by
  obtain ⟨b, o, e, hb, hc⟩ := h.2 (by omega)
  exact ⟨b, o, e, hb, hc (k * 4) _ ((clCs_get l k 0 f hf (by omega)).trans rfl), by rw [Nat.add_assoc]; exact hc (k * 4 + 1) _ ((clCs_get l k 1 f hf (by omega)).trans rfl), by rw [Nat.add_assoc]; exact hc (k * 4 + 2) _ ((clCs_get l k 2 f hf (by omega)).trans rfl), by rw [Nat.add_assoc]; exact hc (k * 4 + 3) _ ((clCs_get l k 3 f hf (by omega)).trans rfl)⟩

set_option maxHeartbeats 1600000 in
theorem equalCl_same (A A' : Option Addr) (n c c' B : Nat) (l : List Cl) (w : World) (hn : n = l.length) (hm : n ≤ 9223372036854775807) (hr : Rd w B 4 A n (clCs l)) (hr' : Rd w B 4 A' n (clCs l)) :
    Calls Try.prog 39 #[.slice A n c, .slice A' n c'] w fun e w' => e = .returned (.bool true) ∧ ∃ m, w.drewN m = w' := by
  have t0 : ((n : Int) != n) = false := by simp
  have HN := Lib.hid hn
  have HR := Lib.hid hr
  have HR' := Lib.hid hr'
  clear hn hr hr'
  go_enter Try.func39, Try.ntmps39
  go_wp2_with fail
  go_loopw [13] (fun i wr => ∃ k : Nat, k ≤ n ∧ i = .int .i64 k ∧ ∃ m, w.drewN m = wr) (fun i _ => n - (intOf i).toNat)
  case atStart => exact ⟨0, Nat.zero_le _, rfl, 0, rfl⟩
  case round =>
    obtain ⟨k, hk, rfl, m, rfl⟩ := hrel
    by_cases hlt : k < n
    · obtain ⟨x, hx⟩ : ∃ x, l[k]? = some x := ⟨_, List.getElem?_eq_getElem (by have := HN.out; omega)⟩
      obtain ⟨x0, x1, x2, x3⟩ := x
      obtain ⟨b, o, rfl, _, c0, c1, c2, c3⟩ := HR.out.cl hlt hx
      obtain ⟨b', o', rfl, _, d0, d1, d2, d3⟩ := HR'.out.cl hlt hx
      have hk0 : (0 : Int) ≤ k := by omega
      have hkn : (k : Int) < n := by omega
      clear hx
      go_wp2_with fail
      go_quiet (fail)
      go_wp2_with fail
      go_roundw
      case measure => simp [intOf]; omega
      case rel => exact ⟨k + 1, by omega, by go_num, _, rfl⟩
    · go_wp2
      go_ret
      exact ⟨rfl, _, rfl⟩
end Go.Proofs.Ytnidcmhfbkdioaa
