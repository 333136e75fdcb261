/-
  Plain laws of deltas of integers: what was written is read back; how long it is. Nothing of the program's code.
-/
import Derived.Test.YtlgcdcjfobfoiaaDh
namespace Go.Proofs.Ytlgcdcjfobfoiaa
open Go.RowKit
set_option maxRecDepth 100000

/-- What is still to be written of the rest of a list, from place k on, with s equal ones pending. -/
def encR (a : List Int) : List Int → Nat → Nat → List Bool
  | [], _, s => if 0 < s then natB s else []
  | x :: r, k, s => if x = bse a k then encR a r (k + 1) (s + 1) else natB s ++ natB (zig (wrap64 (x - bse a k))) ++ encR a r (k + 1) 0

theorem encTo_R (a b : List Int) (hd : List Bool) : ∀ (r : List Int) (k : Nat), k ≤ b.length → b.drop k = r → encEnd (encTo a b hd b.length) = (encTo a b hd k).2 ++ encR a r k (encTo a b hd k).1 := by
  intro r
  induction r with
  | nil =>
    intro k hk hr
    have hl : (b.drop k).length = 0 := by rw [hr]; rfl
    rw [List.length_drop] at hl
    obtain rfl : k = b.length := by omega
    unfold encEnd encR
    split <;> simp
  | cons x r ih =>
    intro k hk hr
    have hl : (b.drop k).length = r.length + 1 := by rw [hr]; rfl
    rw [List.length_drop] at hl
    have hx : b.getD k 0 = x := by
      have := List.getElem?_drop (xs := b) (i := k) (j := 0)
      rw [hr] at this
      simp at this
      simp [List.getD, ← this]
    have hr' : b.drop (k + 1) = r := by
      rw [← List.drop_drop, hr]; rfl
    rw [ih (k + 1) (by omega) hr', encR]
    by_cases h : x = bse a k
    · rw [if_pos h, encTo, if_pos (by rw [hx]; exact h)]
    · rw [if_neg h, encTo, if_neg (by rw [hx]; exact h), hx]
      simp [List.append_assoc]
theorem encB_R (a b : List Int) : encB a b = encH a b ++ encR a b 0 0 := encTo_R a b (encH a b) b 0 (Nat.zero_le _) rfl

/-- From a place on, these bits stand there. -/
def HasB (d : List Nat) (p : Nat) (bits : List Bool) : Prop := p + bits.length ≤ 8 * d.length ∧ ∀ j, j < bits.length → bitAt d (p + j) = bits.getD j false
theorem HasB.left {d : List Nat} {p : Nat} {x y : List Bool} (h : HasB d p (x ++ y)) : HasB d p x := by
  refine ⟨by have := h.1; rw [List.length_append] at this; omega, fun j hj => ?_⟩
  rw [h.2 j (by rw [List.length_append]; omega), getD_append_left hj]
theorem HasB.right {d : List Nat} {p : Nat} {x y : List Bool} (h : HasB d p (x ++ y)) : HasB d (p + x.length) y := by
  refine ⟨by have := h.1; rw [List.length_append] at this; omega, fun j hj => ?_⟩
  have := h.2 (x.length + j) (by rw [List.length_append]; omega)
  rw [getD_append_right (by omega), Nat.add_sub_cancel_left] at this
  rw [Nat.add_assoc]; exact this
theorem HasB.pack (l : List Bool) : HasB (packB l) 0 l := by
  refine ⟨by have := packB_length l; omega, fun j hj => ?_⟩
  rw [Nat.zero_add]; exact packB_bit l j hj
theorem HasB.val {d : List Nat} {p v n : Nat} (hv : v < 2 ^ n) (h : HasB d p (bitsOf v n)) : valAt d p n = v :=
  valAt_eq d p n v hv fun j hj => by rw [h.2 j (by rw [bitsOf_length]; exact hj), bitsOf_getD _ _ _ hj]

theorem HasB.chunk {d : List Nat} {p v n : Nat} : ∀ {k : Nat}, HasB d p (natP v n k) → ∀ i, i < k → HasB d (p + 5 * i) (bitsOf (v / 16 ^ i % 16) 4 ++ [decide (i + 1 < n)]) := by
  intro k
  induction k with
  | zero => intro _ i hi; omega
  | succ k ih =>
    intro h i hi
    rw [natP_succ] at h
    rcases Nat.lt_or_ge i k with h1 | h1
    · exact ih h.left i h1
    · obtain rfl : i = k := by omega
      have := h.right
      rw [natP_length] at this; exact this
theorem grp_hi (v : Nat) : v < 16 ^ grp v := by
  rw [pow16]; unfold grp
  have h1 : v < 2 ^ (v.log2 + 1) := Nat.lt_log2_self
  have h2 : 2 ^ (v.log2 + 1) ≤ 2 ^ (4 * (v.log2 / 4 + 1)) := Nat.pow_le_pow_right (by omega) (by omega)
  omega
theorem grp_lo (v : Nat) (h : 1 < grp v) : 16 ^ (grp v - 1) ≤ v := by
  rw [pow16]; unfold grp at h ⊢
  have hv : v ≠ 0 := by rintro rfl; revert h; decide
  have h1 : 2 ^ v.log2 ≤ v := Nat.log2_self_le hv
  have h2 : 2 ^ (4 * (v.log2 / 4 + 1 - 1)) ≤ 2 ^ v.log2 := Nat.pow_le_pow_right (by omega) (by omega)
  omega
theorem rdN_ok {d : List Nat} {p v : Nat} (hv : v < 18446744073709551616) (h : HasB d p (natB v)) : ∀ (m i : Nat), i < grp v → grp v - i = m → rdN d p (17 - i) i (v % 16 ^ i) (p + 5 * i) = (0, v, p + 5 * grp v) := by
  have hg := grp_le v hv
  have hlen : p + 5 * grp v ≤ 8 * d.length := by have := h.1; rw [natB_length] at this; exact this
  intro m
  induction m with
  | zero => intro i h1 h2; omega
  | succ m ih =>
    intro i h1 h2
    have hc := HasB.chunk h i h1
    have hlt : v / 16 ^ i % 16 < 16 := Nat.mod_lt _ (by omega)
    have hval : valAt d (p + 5 * i) 5 = v / 16 ^ i % 16 ||| (if decide (i + 1 < grp v) then 16 else 0) :=
      HasB.val (or_lt32 _ _ hlt) (by rw [bits5 _ _ hlt]; exact hc)
    have hor : ∀ (x : Nat) (b : Bool), x < 16 → (x ||| (if b then 16 else 0)) = x + (if b then 16 else 0) := by
      have : ∀ x, x < 16 → ∀ b : Bool, (x ||| (if b then 16 else 0)) = x + (if b then 16 else 0) := by decide
      intro x b hx; exact this x hx b
    rw [hor _ _ hlt] at hval
    have hstep : v % 16 ^ (i + 1) = v % 16 ^ i + v / 16 ^ i % 16 * 16 ^ i := by rw [Nat.mod_pow_succ, Nat.mul_comm]
    rw [show 17 - i = (17 - (i + 1)) + 1 by omega, rdN, if_neg (by omega)]
    by_cases hlast : i + 1 < grp v
    · have hd : decide (i + 1 < grp v) = true := decide_eq_true hlast
      rw [hd, if_pos rfl] at hval
      rw [if_neg (by omega), if_neg (by omega), hval, show (v / 16 ^ i % 16 + 16) % 16 = v / 16 ^ i % 16 by omega, ← hstep]
      exact ih (i + 1) hlast (by omega)
    · have hd : decide (i + 1 < grp v) = false := decide_eq_false hlast
      rw [hd, if_neg (by simp), Nat.add_zero] at hval
      have hnz : ¬ (i = 16 ∨ (valAt d (p + 5 * i) 5 = 0 ∧ 0 < i)) := by
        rintro (hx | ⟨hx, hi⟩)
        · omega
        · rw [hval] at hx
          have hlo := grp_lo v (by omega)
          have hhi := grp_hi v
          have e : grp v = i + 1 := by omega
          rw [e] at hlo hhi
          rw [Nat.add_sub_cancel] at hlo
          have hp : 0 < 16 ^ i := Nat.pow_pos (by omega)
          have hq : v / 16 ^ i < 16 := by rw [Nat.div_lt_iff_lt_mul hp, Nat.mul_comm, ← Nat.pow_succ]; exact hhi
          have hq1 : 1 ≤ v / 16 ^ i := by rw [Nat.le_div_iff_mul_le hp]; omega
          omega
      rw [if_neg hnz, if_pos (by omega), hval, Nat.mod_mod, ← hstep]
      have e : i + 1 = grp v := by omega
      rw [show p + 5 * i + 5 = p + 5 * (i + 1) by omega, e, Nat.mod_eq_of_lt (grp_hi v)]
theorem rdNat_ok {d : List Nat} {p v : Nat} (hv : v < 18446744073709551616) (h : HasB d p (natB v)) : rdNat d p = (0, v, p + 5 * grp v) := by
  have hg := grp_le v hv
  have := rdN_ok hv h (grp v) 0 (by omega) (by omega)
  unfold rdNat
  simpa [Nat.mod_one] using this

theorem take_pend {a b : List Int} {k s : Nat} (hk : k ≤ b.length) (hs : s ≤ k) (heq : ∀ j, k - s ≤ j → j < k → b.getD j 0 = bse a j) :
    (b.take (k - s) ++ (List.range s).map fun j => bse a ((b.take (k - s)).length + j)) = b.take k := by
  have hl : (b.take (k - s)).length = k - s := by rw [List.length_take]; omega
  rw [hl]
  apply List.ext_getElem
  · simp; omega
  intro j h1 h2
  have hj : j < k := by simp at h2; omega
  rw [List.getElem_append]
  split
  · simp
  · rename_i h3
    rw [hl] at h3
    have := heq j (by omega) hj
    simp only [List.getElem_map, List.getElem_range, List.getElem_take]
    rw [show k - s + (j - (b.take (k - s)).length) = j by omega, ← this]
    simp [List.getD, List.getElem?_eq_getElem (show j < b.length by omega)]

theorem bdL_ok {d : List Nat} {a b : List Int} (hb : i64r b) (hN : b.length < 18446744073709551616) : ∀ (r : List Int) (k s p f : Nat), k ≤ b.length → b.drop k = r → s ≤ k → (∀ j, k - s ≤ j → j < k → b.getD j 0 = bse a j) → b.length - (k - s) < f → HasB d p (encR a r k s) →
    ∃ q, bdL d a b.length f (b.take (k - s)) p = (0, b, q) := by
  intro r
  induction r with
  | nil =>
    intro k s p f hk hr hs heq hf h
    have hl : (b.drop k).length = 0 := by rw [hr]; rfl
    rw [List.length_drop] at hl
    obtain rfl : k = b.length := by omega
    have htl : (b.take (b.length - s)).length = b.length - s := by rw [List.length_take]; omega
    obtain ⟨f, rfl⟩ : ∃ f', f = f' + 1 := ⟨f - 1, by omega⟩
    unfold bdL
    by_cases h0 : 0 < s
    · rw [encR, if_pos h0] at h
      have hrd := rdNat_ok (by omega) h
      rw [if_neg (by omega), hrd]
      simp only
      rw [if_neg (by simp), if_neg (by omega), if_pos (by omega), take_pend hk hs heq, List.take_length]
      exact ⟨_, rfl⟩
    · obtain rfl : s = 0 := by omega
      rw [if_pos (by omega), Nat.sub_zero, List.take_length]
      exact ⟨_, rfl⟩
  | cons x r ih =>
    intro k s p f hk hr hs heq hf h
    have hl : (b.drop k).length = r.length + 1 := by rw [hr]; rfl
    rw [List.length_drop] at hl
    have hkl : k < b.length := by omega
    have hx? : b[k]? = some x := by
      have := List.getElem?_drop (xs := b) (i := k) (j := 0)
      rw [hr] at this
      simpa using this.symm
    have hx : b.getD k 0 = x := by simp [List.getD, hx?]
    have hxr := hb x (List.mem_of_getElem? hx?)
    have hr' : b.drop (k + 1) = r := by
      rw [← List.drop_drop, hr]; rfl
    have htl : (b.take (k - s)).length = k - s := by rw [List.length_take]; omega
    by_cases he : x = bse a k
    · rw [encR, if_pos he] at h
      have := ih (k + 1) (s + 1) p f (by omega) hr' (by omega) (fun j h1 h2 => by
        rcases Nat.lt_or_ge j k with h3 | h3
        · exact heq j (by omega) h3
        · obtain rfl : j = k := by omega
          rw [hx, he]) (by omega) h
      rwa [show k + 1 - (s + 1) = k - s by omega] at this
    · rw [encR, if_neg he] at h
      have h1 := rdNat_ok (by omega) h.left.left
      have h2 := h.left.right
      rw [natB_length] at h2
      have hwr := wrap64_rng (x - bse a k)
      have h3 := rdNat_ok (zig_lt _ hwr.1 hwr.2) h2
      have h4 := h.right
      rw [List.length_append, natB_length, natB_length] at h4
      obtain ⟨f, rfl⟩ : ∃ f', f = f' + 1 := ⟨f - 1, by omega⟩
      unfold bdL
      rw [if_neg (by omega), h1]
      simp only
      rw [if_neg (by simp), if_neg (by omega), if_neg (by omega), h3]
      simp only
      rw [if_neg (by simp), take_pend (by omega) hs heq, htl, show k - s + s = k by omega, zag_zig _ hwr.1 hwr.2]
      have hsum : wrap64 (bse a k + wrap64 (x - bse a k)) = x := by unfold wrap64; omega
      have htk : b.take k ++ [x] = b.take (k + 1 - 0) := by
        rw [Nat.sub_zero, List.take_add_one, hx?]; rfl
      rw [hsum, htk]
      refine ih (k + 1) 0 _ f (by omega) hr' (by omega) (fun j h1 h2 => by omega) (by omega) ?_
      rwa [show p + (5 * grp s + 5 * grp (zig (wrap64 (x - bse a k)))) = p + 5 * grp s + 5 * grp (zig (wrap64 (x - bse a k))) by omega] at h4

theorem back_ok {a b : List Int} (hb : i64r b) (hok : encOk a b) : backD a (packB (encB a b)) = (0, b) := by
  obtain ⟨h1, h2, h3⟩ := hok
  have hh := HasB.pack (encB a b)
  generalize hd : packB (encB a b) = d at hh ⊢
  rw [encB_R, encH] at hh
  have ha0 := sumI_rng a
  have hb0 := sumI_rng b
  have v1 := HasB.val (by omega) hh.left.left.left
  have hm := hh.left.left.right
  rw [bitsOf_length] at hm
  have v2 := HasB.val (by omega) hm
  have hn := hh.left.right
  rw [List.length_append, bitsOf_length, bitsOf_length] at hn
  have hr := rdNat_ok (by omega) hn
  have he := hh.right
  rw [List.length_append, List.length_append, bitsOf_length, bitsOf_length, natB_length] at he
  have hlen := hn.1
  obtain ⟨q, hbd⟩ := bdL_ok hb (by omega) b 0 0 _ (b.length + 1) (Nat.zero_le _) rfl (Nat.le_refl _) (fun j h1 h2 => by omega) (by omega) he
  have hbody : bodyD d a 128 = (0, b, q) := by
    unfold bodyD
    have hr2 : rdNat d 128 = (0, b.length, 128 + 5 * grp b.length) := hr
    rw [hr2]
    simp only
    rw [if_neg (by simp), if_neg (by omega)]
    have : b.take (0 - 0) = [] := rfl
    rw [this] at hbd
    rw [show 128 + 5 * grp b.length = 0 + (64 + 64 + 5 * grp b.length) by omega]; exact hbd
  unfold backD
  rw [if_neg (by omega), if_neg (by omega), v1, if_neg (by rw [Int.toNat_of_nonneg ha0.1]; simp), if_neg (by omega), hbody]
  simp only
  rw [if_neg (by simp), show (64 : Nat) = 0 + 64 from rfl]
  rw [v2, if_neg (by rw [Int.toNat_of_nonneg hb0.1]; simp), if_pos ⟨h3, h2, hd⟩]

/-- How many of a list differ from a base. -/
def ndR (a : List Int) : List Int → Nat → Nat
  | [], _ => 0
  | x :: r, k => (if x = bse a k then 0 else 1) + ndR a r (k + 1)
theorem ndR_set (a : List Int) (v : Int) : ∀ (r : List Int) (k i : Nat), ndR a (r.set i v) k ≤ ndR a r k + 1 := by
  intro r
  induction r with
  | nil => intro k i; simp [ndR]
  | cons x r ih =>
    intro k i
    cases i with
    | zero => rw [List.set_cons_zero, ndR, ndR]; split <;> split <;> omega
    | succ i => rw [List.set_cons_succ, ndR, ndR]; have := ih (k + 1) i; omega
theorem ndR_self (a : List Int) : ∀ (r : List Int) (k : Nat), a.drop k = r → ndR a r k = 0 := by
  intro r
  induction r with
  | nil => intro k _; rfl
  | cons x r ih =>
    intro k hr
    have hx? : a[k]? = some x := by
      have := List.getElem?_drop (xs := a) (i := k) (j := 0)
      rw [hr] at this
      simpa using this.symm
    have hx : x = bse a k := by simp [bse, List.getD, hx?]
    rw [ndR, if_pos hx, ih (k + 1) (by rw [← List.drop_drop, hr]; rfl)]
theorem grp3 (v : Nat) (h : v ≤ 1000) : grp v ≤ 3 := by
  rcases Nat.lt_or_ge 3 (grp v) with h1 | h1
  · have h2 := grp_lo v (by omega)
    have h3 : 16 ^ 3 ≤ 16 ^ (grp v - 1) := Nat.pow_le_pow_right (by omega) (by omega)
    omega
  · exact h1
theorem encR_len (a : List Int) : ∀ (r : List Int) (k s : Nat), s ≤ k → k + r.length ≤ 1000 → (encR a r k s).length ≤ 15 + 95 * ndR a r k := by
  intro r
  induction r with
  | nil =>
    intro k s hs hk
    unfold encR
    split
    · rw [natB_length]; have := grp3 s (by simp at hk; omega); simp [ndR]; omega
    · simp
  | cons x r ih =>
    intro k s hs hk
    rw [List.length_cons] at hk
    unfold encR ndR
    split
    · have := ih (k + 1) (s + 1) (by omega) (by omega); omega
    · have := ih (k + 1) 0 (by omega) (by omega)
      have h1 := grp3 s (by omega)
      have hwr := wrap64_rng (x - bse a k)
      have h2 := (grp_le _ (zig_lt _ hwr.1 hwr.2)).2
      rw [List.length_append, List.length_append, natB_length, natB_length]; omega
/-- A delta of few changes is short. -/
theorem small_ok {a b : List Int} {m : Nat} (hl : b.length = a.length) (ha : a.length ≤ 1000) (hm : ndR a b 0 ≤ m) (hm1 : m ≤ 100) : encOk a b ∧ (packB (encB a b)).length ≤ 28 + 26 * m := by
  have h1 : (encB a b).length ≤ 158 + 95 * m := by
    rw [encB_R, encH]
    have := encR_len a b 0 0 (Nat.le_refl _) (by omega)
    have := grp3 b.length (by omega)
    simp only [List.length_append, bitsOf_length, natB_length]; omega
  exact ⟨⟨by omega, by omega, by omega⟩, by rw [packB_length]; omega⟩
end Go.Proofs.Ytlgcdcjfobfoiaa
