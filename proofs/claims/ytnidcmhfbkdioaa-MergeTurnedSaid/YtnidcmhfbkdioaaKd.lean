/-
  The contracts of kind.Find and kind.Check. Conditions: what is read can be read.
-/
import Derived.Test.YtnidcmhfbkdioaaKc
namespace Go.Proofs.Ytnidcmhfbkdioaa
open Go.RowKit
set_option maxRecDepth 100000

/-- The index of the first name that is equal, or -1. -/
def findF (l : List ByteArray) (nm : ByteArray) : Int := match l.findIdx? (fun x => decide (x = nm)) with
  | some i => i
  | none => -1
theorem findF_hit {l : List ByteArray} {nm : ByteArray} {k : Nat} (hk : l[k]? = some nm) (h : ∀ i, i < k → ∀ x, l[i]? = some x → x ≠ nm) : findF l nm = k := by
  unfold findF
  have : l.findIdx? (fun x => decide (x = nm)) = some k := by
    rw [List.findIdx?_eq_some_iff_getElem]
    obtain ⟨h1, h2⟩ := List.getElem?_eq_some_iff.1 hk
    exact ⟨h1, by simp [h2], fun j hj => by simpa using h j hj _ (List.getElem?_eq_getElem (by omega))⟩
  rw [this]
theorem findF_none {l : List ByteArray} {nm : ByteArray} (h : ∀ i, i < l.length → ∀ x, l[i]? = some x → x ≠ nm) : findF l nm = -1 := by
  unfold findF
  have : l.findIdx? (fun x => decide (x = nm)) = none := by
    rw [List.findIdx?_eq_none_iff]
    intro x hx
    obtain ⟨i, hi⟩ := List.mem_iff_getElem?.1 hx
    exact decide_eq_false (h i (List.getElem?_eq_some_iff.1 hi).1 x hi)
  rw [this]
theorem findF_nonneg {l : List ByteArray} {nm : ByteArray} : 0 ≤ findF l nm ↔ l.any (fun x => decide (x = nm)) = true := by
  unfold findF
  cases h : l.findIdx? (fun x => decide (x = nm)) with
  | some i =>
    have := (List.findIdx?_eq_some_iff_getElem.1 h)
    obtain ⟨h1, h2, _⟩ := this
    refine ⟨fun _ => List.any_eq_true.2 ⟨l[i], List.getElem_mem h1, h2⟩, fun _ => Int.natCast_nonneg i⟩
  | none =>
    rw [List.findIdx?_eq_none_iff] at h
    refine ⟨fun h2 => by simp at h2, fun h2 => ?_⟩
    obtain ⟨x, hx, hd⟩ := List.any_eq_true.1 h2
    rw [h x hx] at hd; cases hd

set_option maxHeartbeats 800000 in
theorem find_any (A : Option Addr) (n c B : Nat) (ks : List Kd) (nm : ByteArray) (w : World) (hr : Rd w B 2 A n (kdCs ks)) (hn : n = ks.length) (hc : n ≤ c) (hc2 : c ≤ 9223372036854775807) (hB : B ≤ w.heap.size) :
    Calls Try.prog 162 #[.slice A n c, .string nm] w fun e w' => e = .returned (.int .i64 (findF (ks.map Kd.nm) nm)) ∧ Below w.heap.size w w' := by
  obtain ⟨R, hR⟩ : ∃ R, R = findF (ks.map Kd.nm) nm := ⟨_, rfl⟩
  rw [← hR]
  have HR := Lib.hid hR
  have HN := Lib.hid hn
  have HRD := Lib.hid hr
  have HBB := Lib.hid hB
  clear hr hn hR hB
  go_enter Try.func162, Try.ntmps162
  go_wp2_with fail
  go_loopg [9] n (fun g v wr => ∃ k : Nat, k ≤ n ∧ g = n - k ∧ v = .int .i64 k ∧ Hid (∀ i, i < k → ∀ x, (ks.map Kd.nm)[i]? = some x → x ≠ nm) ∧ Hid (Below w.heap.size w wr))
  case atStart => exact ⟨0, Nat.zero_le _, rfl, rfl, Lib.hid (fun i hi => by omega), Lib.hid (Below.refl _ _)⟩
  case round =>
    obtain ⟨k, hk, rfl, rfl, HNE, HW⟩ := hrel
    by_cases hkn : k < n
    · obtain ⟨f, hf⟩ : ∃ f, ks[k]? = some f := ⟨_, List.getElem?_eq_getElem (by have := HN.out; omega)⟩
      have hrw : Rd wr B 2 A n (kdCs ks) := HRD.out.below (HW.out.mono HBB.out)
      obtain ⟨b, o, hA, hbB, c0, c1⟩ := hrw.kd hkn hf
      subst hA
      have HF : Hid ((ks.map Kd.nm)[k]? = some f.nm) := Lib.hid (by rw [List.getElem?_map, hf]; rfl)
      have hkz : (k : Int) < n := by omega
      have hkz0 : (0 : Int) ≤ k := by omega
      clear hrw hf
      generalize f.nm = fn at *
      generalize f.A = fA at *
      generalize f.n = fl at *
      generalize f.c = fc at *
      by_cases hgf : fn = nm
      · subst hgf
        go_wp2_with fail
        go_ret
        rw [HR.out, findF_hit HF.out HNE.out]
        exact ⟨rfl, HW.out.alloc HW.out.size _⟩
      · have hgb : (fn == nm) = false := ba_beq_ne hgf
        have hgl : (fn.toList == nm.toList) = false := ba_tl_ne hgf
        go_wp2_with fail
        go_roundg (n - (k + 1))
        case measure => omega
        case rel => exact ⟨k + 1, by omega, rfl, by go_num, Lib.hid fun i hi x hx => by
          rcases Nat.lt_or_ge i k with h | h
          · exact HNE.out i h x hx
          · obtain rfl : i = k := by omega
            rw [HF.out] at hx
            injection hx with hx
            rw [← hx]; exact hgf, Lib.hid (HW.out.alloc HW.out.size _)⟩
    · obtain rfl : k = n := by omega
      go_wp2_with fail
      go_ret
      rw [HR.out, findF_none fun i hi x hx => HNE.out i (by rw [List.length_map, ← HN.out] at hi; exact hi) x hx]
      exact ⟨rfl, HW.out⟩
end Go.Proofs.Ytnidcmhfbkdioaa
