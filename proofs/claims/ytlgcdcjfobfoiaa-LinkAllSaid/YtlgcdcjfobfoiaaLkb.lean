/-
  What a packet holds: plain; slices that are cut at both ends, as one equation. Conditions: none.
-/
import Derived.Test.YtlgcdcjfobfoiaaLka
namespace Go.Proofs.Ytlgcdcjfobfoiaa
open Go.RowKit
set_option maxRecDepth 100000

theorem between_run (T : TypeId) (e : TypeId) (hT : Try.prog.underlying T = some (.slice e)) (he : Try.prog.elem T = e) (hs : ∀ w, (Go.sizeOf e).run Try.prog w = .ok 1 w) (A : Option Addr) (n c j k : Nat) (hj : j ≤ k) (hk : k ≤ c) (wx : World) : (Instr.sliceAt T (.slice A n c) (some (.int .i64 (j : Int))) (some (.int .i64 (k : Int))) none).run Try.prog wx = .ok (.slice (cutA A c j) (k - j) (c - j)) wx := by
  have hT' : Try.prog.underlying T = some (.slice (Try.prog.elem T)) := by rw [he]; exact hT
  rw [run_sliceAt_slice wx T _ _ _ _ hT', run_slice_lh wx T A n c hT' .i64 .i64 (j : Int) (k : Int) (by omega) (by omega) (by omega), he, hs]
  simp only [Result.andThen, sliced, Int.toNat_natCast, Nat.mul_one]
  rfl
theorem between_30 (A : Option Addr) (n c j k : Nat) (hj : j ≤ k) (hk : k ≤ c) (wx : World) : (Instr.sliceAt 30 (.slice A n c) (some (.int .i64 (j : Int))) (some (.int .i64 (k : Int))) none).run Try.prog wx = .ok (.slice (cutA A c j) (k - j) (c - j)) wx :=
  between_run 30 5 Try.underlying30 (by kernel_rfl) size5 A n c j k hj hk wx
theorem Rd.take {w : World} {B n j : Nat} {A : Option Addr} {xs : List Value} (h : Rd w B 1 A n xs) (hj : j ≤ n) : Rd w B 1 A j (xs.take j) := by
  refine ⟨by rw [List.length_take, h.1]; omega, fun hn => ?_⟩
  obtain ⟨b, o, hA, hb, hcell⟩ := h.2 (by omega)
  refine ⟨b, o, hA, hb, fun i u hu => hcell i u ?_⟩
  rw [List.getElem?_take] at hu
  split at hu
  · exact hu
  · cases hu
theorem bytesV_take (l : List Nat) (k : Nat) : bytesV (l.take k) = (bytesV l).take k := by simp [bytesV]
theorem bytesV_drop (l : List Nat) (k : Nat) : bytesV (l.drop k) = (bytesV l).drop k := by simp [bytesV]
/-- The bytes from j up to k. -/
theorem Rd.between {w : World} {B n c j k : Nat} {A : Option Addr} {l : List Nat} (h : Rd w B 1 A n (bytesV l)) (hj : j ≤ k) (hk : k ≤ n) (hc : n ≤ c) : Rd w B 1 (cutA A c j) (k - j) (bytesV ((l.drop j).take (k - j))) := by
  have h1 := (h.cut (c := c) (k := j) (by omega) hc).take (j := k - j) (by omega)
  rw [bytesV_take, bytesV_drop]
  exact h1

def lenB (r : List Nat) : Nat := r.getD 0 0 * 256 + r.getD 1 0
def parseB : Nat → List Nat → Option (List (List Nat) × List Nat)
  | 0, r => some ([], r)
  | k + 1, r => if r.length < 2 + lenB r then none else (parseB k (r.drop (2 + lenB r))).map fun p => ((r.drop 2).take (lenB r) :: p.1, p.2)
def bodyO (l : List Nat) : List Nat := l.take (l.length - 8)
/-- Acknowledged, first, messages; the error. -/
def openR (l : List Nat) : (Nat × Nat × List (List Nat)) × Nat :=
  if l.length < 17 then ((0, 0, []), 14)
  else if l.drop (l.length - 8) = bigB (sumBy (bodyO l)).toNat 8 then
    match parseB ((bodyO l).getD 8 0) ((bodyO l).drop 9) with
    | none => ((0, 0, []), 3)
    | some p => if 8 < (bodyO l).getD 8 0 ∨ 0 < p.2.length then ((0, 0, []), 3) else ((val4 (bodyO l), val4 ((bodyO l).drop 4), p.1), 0)
  else ((0, 0, []), 13)

theorem lenB_lt {r : List Nat} (h : ∀ b ∈ r, b < 256) : lenB r < 65536 := by
  have := getD_lt h 0
  have := getD_lt h 1
  unfold lenB; omega
theorem openR_short {l : List Nat} (h : l.length < 17) : openR l = ((0, 0, []), 14) := by unfold openR; rw [if_pos h]
theorem openR_sum {l : List Nat} (h : ¬ l.length < 17) (h2 : l.drop (l.length - 8) ≠ bigB (sumBy (bodyO l)).toNat 8) : openR l = ((0, 0, []), 13) := by
  unfold openR; rw [if_neg h, if_neg h2]
theorem openR_none {l : List Nat} (h : ¬ l.length < 17) (h2 : l.drop (l.length - 8) = bigB (sumBy (bodyO l)).toNat 8) (h3 : parseB ((bodyO l).getD 8 0) ((bodyO l).drop 9) = none) : openR l = ((0, 0, []), 3) := by
  unfold openR; rw [if_neg h, if_pos h2, h3]
theorem openR_form {l : List Nat} {p : List (List Nat) × List Nat} (h : ¬ l.length < 17) (h2 : l.drop (l.length - 8) = bigB (sumBy (bodyO l)).toNat 8) (h3 : parseB ((bodyO l).getD 8 0) ((bodyO l).drop 9) = some p) (h4 : 8 < (bodyO l).getD 8 0 ∨ 0 < p.2.length) : openR l = ((0, 0, []), 3) := by
  unfold openR; rw [if_neg h, if_pos h2, h3]; simp only [if_pos h4]
theorem openR_ok {l : List Nat} {p : List (List Nat) × List Nat} (h : ¬ l.length < 17) (h2 : l.drop (l.length - 8) = bigB (sumBy (bodyO l)).toNat 8) (h3 : parseB ((bodyO l).getD 8 0) ((bodyO l).drop 9) = some p) (h4 : ¬ (8 < (bodyO l).getD 8 0 ∨ 0 < p.2.length)) : openR l = ((val4 (bodyO l), val4 ((bodyO l).drop 4), p.1), 0) := by
  unfold openR; rw [if_neg h, if_pos h2, h3]; simp only [if_neg h4]

/-- How far the reading has come: k messages are left, L are read, r is the rest. -/
def AtB (R : Option (List (List Nat) × List Nat)) (k : Nat) (L : List (List Nat)) (r : List Nat) : Prop :=
  R = (parseB k r).map fun p => (L ++ p.1, p.2)
theorem AtB.start (k : Nat) (r : List Nat) : AtB (parseB k r) k [] r := by
  unfold AtB; simp
theorem AtB.fail {R : Option (List (List Nat) × List Nat)} {k : Nat} {L : List (List Nat)} {r : List Nat} (h : AtB R (k + 1) L r) (hs : r.length < 2 + lenB r) : R = none := by
  unfold AtB at h; rw [h, parseB, if_pos hs]; rfl
theorem AtB.step {R : Option (List (List Nat) × List Nat)} {k : Nat} {L : List (List Nat)} {r : List Nat} (h : AtB R (k + 1) L r) (hs : ¬ r.length < 2 + lenB r) : AtB R k (L ++ [(r.drop 2).take (lenB r)]) (r.drop (2 + lenB r)) := by
  unfold AtB at h ⊢; rw [h, parseB, if_neg hs, Option.map_map]; congr 1; funext p; simp
theorem AtB.done {R : Option (List (List Nat) × List Nat)} {L : List (List Nat)} {r : List Nat} (h : AtB R 0 L r) : R = some (L, r) := by
  unfold AtB at h; rw [h, parseB]; simp
theorem parseB_len {k : Nat} {r : List Nat} {p : List (List Nat) × List Nat} (h : parseB k r = some p) : p.1.length = k := by
  induction k generalizing r p with
  | zero => rw [parseB] at h; injection h with h; rw [← h]; rfl
  | succ k ih =>
    rw [parseB] at h
    split at h
    · cases h
    · cases hq : parseB k (r.drop (2 + lenB r)) with
      | none => rw [hq] at h; cases h
      | some q => rw [hq] at h; simp at h; rw [← h]; simp [ih hq]
theorem openR_len (l : List Nat) : (openR l).1.2.2.length ≤ 8 := by
  unfold openR
  split
  · simp
  · split
    · split
      · simp
      · split
        · simp
        · rename_i h1 h2
          simp only
          rw [parseB_len h1]; omega
    · simp

theorem take_more {l : List Nat} {j d : Nat} {s : Nat} (hj : j + (d + 1) = 8) (hl : l.length = 8) (h : l.take j = (bigB s 8).take j) (he : l.getD j 0 = s / 2 ^ (8 * d) % 256) : l.take (j + 1) = (bigB s 8).take (j + 1) := by
  rw [bigB_take s j d hj, List.take_add_one, h]
  congr 1
  rw [List.getD_eq_getElem?_getD] at he
  rw [List.getElem?_eq_getElem (by omega)] at he ⊢
  simp at he ⊢
  exact he
theorem take_not {l : List Nat} {j d : Nat} {s : Nat} (hj : j + (d + 1) = 8) (he : l.getD j 0 ≠ s / 2 ^ (8 * d) % 256) : l ≠ bigB s 8 := by
  rintro rfl
  apply he
  rw [List.getD_eq_getElem?_getD, bigB_at s 8 j (by omega), show 8 - 1 - j = d by omega, show (256 : Nat) = 2 ^ 8 by rfl, ← Nat.pow_mul]
  rfl
theorem whole4 (l : List Nat) (h : 4 ≤ l.length) : wholeB (l.take 4) = val4 l := by
  match l, h with
  | a :: b :: c :: d :: l, _ => simp [wholeB, val4]; omega
theorem whole2 (l : List Nat) (h : 2 ≤ l.length) : wholeB (l.take 2) = lenB l := by
  match l, h with
  | a :: b :: l, _ => simp [wholeB, lenB]; omega
theorem or_8' (a b : Nat) (ha : a < 256) (hb : b < 256) : Go.bits .or .i64 ((a : Int) * 256) (b : Int) = ((a * 256 + b : Nat) : Int) := or_8 a b hb (by omega)

theorem results_tmp4 {fn : Func} {t u v x : Tmp} (h : fn.results = #[.tmp t, .tmp u, .tmp v, .tmp x]) (tmps : Array Value) (P : Program) (w : World) :
    (results fn tmps).run P w = .ok (.tuple #[tmps.getD t undef, tmps.getD u undef, tmps.getD v undef, tmps.getD x undef]) w := by
  simp [results, h]

/-- What is delivered of L, from the first k. -/
def dvN (f next : Nat) (L : List (List Nat)) : Nat → Nat × List (List Nat)
  | 0 => (next, [])
  | i + 1 => if f + i = (dvN f next L i).1 then ((dvN f next L i).1 + 1, (dvN f next L i).2 ++ [L.getD i []]) else dvN f next L i
theorem dvN_le (f next : Nat) (L : List (List Nat)) (k : Nat) : (dvN f next L k).1 ≤ next + k := by
  induction k with
  | zero => simp [dvN]
  | succ k ih =>
    rw [dvN]
    split
    · show _ + 1 ≤ _; omega
    · omega
end Go.Proofs.Ytlgcdcjfobfoiaa
