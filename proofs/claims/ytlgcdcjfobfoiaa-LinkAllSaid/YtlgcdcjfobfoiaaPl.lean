/-
  Plain laws of packed inputs: what was packed is read back; a beginning is too short; a continuation is another text. Nothing of the program's code.
-/
import Derived.Test.YtlgcdcjfobfoiaaUnp
namespace Go.Proofs.Ytlgcdcjfobfoiaa

theorem valAt_eq (l : List Nat) (p n v : Nat) (hv : v < 2 ^ n) (h : ∀ j, j < n → bitAt l (p + j) = v.testBit j) : valAt l p n = v := by
  induction n generalizing v with
  | zero => simp at hv; subst hv; rfl
  | succ n ih =>
    have h1 : v % 2 ^ n < 2 ^ n := Nat.mod_lt _ (Nat.two_pow_pos _)
    have h2 := ih (v % 2 ^ n) h1 (fun j hj => by rw [h j (by omega), Nat.testBit_mod_two_pow]; simp [hj])
    simp only [valAt]
    rw [h2, h n (by omega)]
    have h3 : v / 2 ^ n < 2 := by rw [Nat.div_lt_iff_lt_mul (Nat.two_pow_pos _)]; rw [Nat.pow_succ] at hv; omega
    have h4 : (v.testBit n).toNat = v / 2 ^ n := by
      rw [Nat.testBit_eq_decide_div_mod_eq]
      generalize v / 2 ^ n = d at h3
      have : d = 0 ∨ d = 1 := by omega
      rcases this with h | h <;> simp [h]
    rw [h4, Nat.add_comm, Nat.mul_comm]
    exact Nat.div_add_mod v (2 ^ n)
theorem valAt_congr (l l' : List Nat) (p n : Nat) (h : ∀ j, j < n → bitAt l (p + j) = bitAt l' (p + j)) : valAt l p n = valAt l' p n := by
  induction n with
  | zero => rfl
  | succ n ih => simp only [valAt]; rw [ih (fun j hj => h j (by omega)), h n (by omega)]

theorem bitsOf_getD (v n j : Nat) (h : j < n) : (bitsOf v n).getD j false = v.testBit j := by
  simp [bitsOf, List.getD, h]
theorem getD_append_left {l k : List Bool} {j : Nat} (h : j < l.length) : (l ++ k).getD j false = l.getD j false := by
  simp [List.getD, List.getElem?_append_left h]
theorem getD_append_right {l k : List Bool} {j : Nat} (h : l.length ≤ j) : (l ++ k).getD j false = k.getD (j - l.length) false := by
  simp [List.getD, List.getElem?_append_right h]

/-- Where the bits of one input stand, it is read. -/
theorem oneAt_bits {bs : List Nat} {y x : Inp} {p : Nat} (hx : ¬ x.bad) (hy : ¬ y.bad) (hfit : p + (oneBits y x).length ≤ 8 * bs.length) (h : ∀ j, j < (oneBits y x).length → bitAt bs (p + j) = (oneBits y x).getD j false) :
    oneAt bs y p = some (x, p + (oneBits y x).length) := by
  simp only [Inp.bad, not_or, Int.not_lt] at hx hy
  obtain ⟨a1, a2, a3, a4, a5, a6⟩ := hx
  obtain ⟨b1, b2, b3, b4, b5, b6⟩ := hy
  have v1 : ∀ q, valAt bs q 1 = (bitAt bs q).toNat := fun q => by simp [valAt]
  unfold oneBits at hfit h ⊢
  by_cases e : x = y
  · rw [if_pos e] at hfit h ⊢
    have h0 := h 0 (by simp)
    simp at h0 hfit
    unfold oneAt
    rw [if_neg (by omega), if_pos (by rw [v1, h0]; rfl), e]
    simp
  · rw [if_neg e] at hfit h ⊢
    have hKlt : x.k.toNat ^^^ y.k.toNat < 2 ^ 8 := Nat.xor_lt_two_pow (by show _ < 256; omega) (by show _ < 256; omega)
    have h0 : bitAt bs p = true := by
      have := h 0 (by simp)
      rw [getD_append_left (by simp), getD_append_left (by simp)] at this
      simpa using this
    have hK : valAt bs (p + 1) 8 = x.k.toNat ^^^ y.k.toNat := by
      refine valAt_eq _ _ _ _ hKlt fun j hj => ?_
      have := h (1 + j) (by simp [bitsOf_length]; omega)
      rw [getD_append_left (by simp [bitsOf_length]; omega), getD_append_right (by simp)] at this
      rw [show p + 1 + j = p + (1 + j) by omega, this]
      simp only [List.length_singleton, Nat.add_sub_cancel_left]
      exact bitsOf_getD _ _ _ hj
    have hback : ((valAt bs (p + 1) 8 ^^^ y.k.toNat : Nat) : Int) = x.k := by
      rw [hK, Nat.xor_assoc, Nat.xor_self, Nat.xor_zero]; omega
    have hlen9 : ([true] ++ bitsOf (x.k.toNat ^^^ y.k.toNat) 8).length = 9 := by simp [bitsOf_length]
    by_cases e2 : x.x = y.x ∧ x.y = y.y
    · rw [if_pos e2] at hfit h ⊢
      have h9 : bitAt bs (p + 9) = false := by
        have := h 9 (by simp [bitsOf_length])
        rw [getD_append_right (by rw [hlen9]; omega), hlen9] at this
        simpa using this
      simp [bitsOf_length] at hfit
      unfold oneAt
      rw [if_neg (by omega), if_neg (by rw [v1, h0]; simp), if_neg (by omega), if_neg (by omega), if_pos (by rw [v1, h9]; rfl), hback, ← e2.1, ← e2.2]
      simp [bitsOf_length]
    · rw [if_neg e2] at hfit h ⊢
      have h9 : bitAt bs (p + 9) = true := by
        have := h 9 (by simp [bitsOf_length])
        rw [getD_append_right (by rw [hlen9]; omega), hlen9] at this
        simpa using this
      have hX : valAt bs (p + 10) 8 = (x.x + 128).toNat := by
        refine valAt_eq _ _ _ _ (by show _ < 256; omega) fun j hj => ?_
        have := h (10 + j) (by simp [bitsOf_length]; omega)
        rw [getD_append_right (by rw [hlen9]; omega), hlen9, getD_append_left (by simp [bitsOf_length]; omega), getD_append_right (by simp; omega)] at this
        rw [show p + 10 + j = p + (10 + j) by omega, this]
        rw [show 10 + j - 9 - [true].length = j by simp; omega]
        exact bitsOf_getD _ _ _ hj
      have hY : valAt bs (p + 18) 8 = (x.y + 128).toNat := by
        refine valAt_eq _ _ _ _ (by show _ < 256; omega) fun j hj => ?_
        have := h (18 + j) (by simp [bitsOf_length]; omega)
        rw [getD_append_right (by rw [hlen9]; omega), hlen9, getD_append_right (by simp [bitsOf_length]; omega)] at this
        rw [show p + 18 + j = p + (18 + j) by omega, this]
        rw [show 18 + j - 9 - ([true] ++ bitsOf (x.x + 128).toNat 8).length = j by simp [bitsOf_length]; omega]
        exact bitsOf_getD _ _ _ hj
      simp [bitsOf_length] at hfit
      unfold oneAt
      rw [if_neg (by omega), if_neg (by rw [v1, h0]; simp), if_neg (by omega), if_neg (by omega), if_neg (by rw [v1, h9]; simp), if_neg (by omega), if_neg (by omega), hback, hX, hY]
      rw [show (((x.x + 128).toNat : Nat) : Int) - 128 = x.x by omega, show (((x.y + 128).toNat : Nat) : Int) - 128 = x.y by omega]
      simp [bitsOf_length]

theorem packBits_cons (y x : Inp) (ys xs : List Inp) : packBits (y :: ys) (x :: xs) = oneBits y x ++ packBits ys xs := by simp [packBits]

theorem parse_bits {bs : List Nat} : ∀ {ys xs : List Inp} {p : Nat}, ys.length = xs.length → (∀ i ∈ ys, ¬ i.bad) → (∀ i ∈ xs, ¬ i.bad) → p + (packBits ys xs).length ≤ 8 * bs.length →
    (∀ j, j < (packBits ys xs).length → bitAt bs (p + j) = (packBits ys xs).getD j false) → parse bs ys p = some (xs, p + (packBits ys xs).length) := by
  intro ys
  induction ys with
  | nil => intro xs p hl _ _ _ _; cases xs with
    | nil => rfl
    | cons _ _ => simp at hl
  | cons y ys ih =>
    intro xs p hl hy hx hfit h
    cases xs with
    | nil => simp at hl
    | cons x xs =>
      rw [packBits_cons] at hfit h ⊢
      rw [List.length_append] at hfit
      have h1 := oneAt_bits (bs := bs) (p := p) (hx x (List.mem_cons_self ..)) (hy y (List.mem_cons_self ..)) (by omega) (fun j hj => by rw [h j (by rw [List.length_append]; omega), getD_append_left hj])
      have h2 := ih (xs := xs) (p := p + (oneBits y x).length) (by simpa using hl) (fun i hi => hy i (List.mem_cons_of_mem _ hi)) (fun i hi => hx i (List.mem_cons_of_mem _ hi)) (by omega) (fun j hj => by
        have := h ((oneBits y x).length + j) (by rw [List.length_append]; omega)
        rw [getD_append_right (by omega), Nat.add_sub_cancel_left] at this
        rw [Nat.add_assoc]; exact this)
      simp only [parse, h1, h2, List.length_append, Nat.add_assoc]

/-- What was packed is read back, whatever follows it. -/
theorem parse_pack {l l' : List Inp} (E : List Nat) (hl : l.length = l'.length) (hg : ∀ i ∈ l, ¬ i.bad) (hg' : ∀ i ∈ l', ¬ i.bad) : parse (packB (packBits l l') ++ E) l 0 = some (l', (packBits l l').length) := by
  have hlen := packB_length (packBits l l')
  have := parse_bits (bs := packB (packBits l l') ++ E) (p := 0) hl hg hg' (by rw [List.length_append]; omega) (fun j hj => by
    rw [Nat.zero_add]
    unfold bitAt
    rw [List.getD_eq_getElem?_getD, List.getElem?_append_left (by omega), ← List.getD_eq_getElem?_getD, packB_bit _ _ hj])
  simpa using this

theorem oneAt_ext {bs BS : List Nat} {y x : Inp} {p q : Nat} (hle : bs.length ≤ BS.length) (hb : ∀ i, i < 8 * bs.length → bitAt bs i = bitAt BS i) (h : oneAt bs y p = some (x, q)) : oneAt BS y p = some (x, q) ∧ q ≤ 8 * bs.length := by
  have hv : ∀ a n, a + n ≤ 8 * bs.length → valAt bs a n = valAt BS a n := fun a n ha => valAt_congr _ _ _ _ fun j hj => hb _ (by omega)
  unfold oneAt at h ⊢
  by_cases c1 : p + 1 ≤ 8 * bs.length
  · rw [if_neg (by omega)] at h
    rw [if_neg (by omega), ← hv p 1 c1]
    by_cases c2 : valAt bs p 1 = 0
    · rw [if_pos c2] at h ⊢
      refine ⟨h, ?_⟩
      injection h with h; injection h with _ h; omega
    · rw [if_neg c2] at h ⊢
      by_cases c3 : p + 9 ≤ 8 * bs.length
      · rw [if_neg (by omega)] at h
        rw [if_neg (by omega)]
        by_cases c4 : p + 10 ≤ 8 * bs.length
        · rw [if_neg (by omega)] at h
          rw [if_neg (by omega), ← hv (p + 9) 1 (by omega), ← hv (p + 1) 8 (by omega)]
          by_cases c5 : valAt bs (p + 9) 1 = 0
          · rw [if_pos c5] at h ⊢
            refine ⟨h, ?_⟩
            injection h with h; injection h with _ h; omega
          · rw [if_neg c5] at h ⊢
            by_cases c6 : p + 18 ≤ 8 * bs.length
            · rw [if_neg (by omega)] at h
              rw [if_neg (by omega)]
              by_cases c7 : p + 26 ≤ 8 * bs.length
              · rw [if_neg (by omega)] at h
                rw [if_neg (by omega), ← hv (p + 10) 8 (by omega), ← hv (p + 18) 8 (by omega)]
                refine ⟨h, ?_⟩
                injection h with h; injection h with _ h; omega
              · rw [if_pos (by omega)] at h; cases h
            · rw [if_pos (by omega)] at h; cases h
        · rw [if_pos (by omega)] at h; cases h
      · rw [if_pos (by omega)] at h; cases h
  · rw [if_pos (by omega)] at h; cases h

theorem parse_ext {bs BS : List Nat} (hle : bs.length ≤ BS.length) (hb : ∀ i, i < 8 * bs.length → bitAt bs i = bitAt BS i) : ∀ {ys xs : List Inp} {p q : Nat}, p ≤ 8 * bs.length → parse bs ys p = some (xs, q) → parse BS ys p = some (xs, q) ∧ q ≤ 8 * bs.length := by
  intro ys
  induction ys with
  | nil => intro xs p q hp h; simp only [parse] at h ⊢; exact ⟨h, by injection h with h; injection h with _ h; omega⟩
  | cons y ys ih =>
    intro xs p q hp h
    simp only [parse] at h ⊢
    cases h1 : oneAt bs y p with
    | none => rw [h1] at h; cases h
    | some v =>
      obtain ⟨x, r⟩ := v
      obtain ⟨e1, e2⟩ := oneAt_ext hle hb h1
      rw [h1] at h
      simp only [] at h
      cases h2 : parse bs ys r with
      | none => rw [h2] at h; cases h
      | some v =>
        obtain ⟨xs', r'⟩ := v
        obtain ⟨e3, e4⟩ := ih e2 h2
        rw [h2] at h
        simp only [] at h
        injection h with h; injection h with hh1 hh2
        subst hh1; subst hh2
        rw [e1]
        simp only [e3]
        exact ⟨trivial, e4⟩

/-- A proper beginning is too short. -/
theorem parse_less {l l' : List Inp} (hl : l.length = l'.length) (hg : ∀ i ∈ l, ¬ i.bad) (hg' : ∀ i ∈ l', ¬ i.bad) {j : Nat} (hj : j < (packB (packBits l l')).length) : parse ((packB (packBits l l')).take j) l 0 = none := by
  have hlen := packB_length (packBits l l')
  have htl : ((packB (packBits l l')).take j).length = j := by rw [List.length_take]; omega
  cases h : parse ((packB (packBits l l')).take j) l 0 with
  | none => rfl
  | some v =>
    obtain ⟨xs, q⟩ := v
    obtain ⟨e1, e2⟩ := parse_ext (BS := packB (packBits l l')) (by omega) (fun i hi => by
      unfold bitAt
      rw [List.getD_eq_getElem?_getD, List.getElem?_take, if_pos (by omega), ← List.getD_eq_getElem?_getD]) (Nat.zero_le _) h
    have := parse_pack [] hl hg hg'
    rw [List.append_nil, e1] at this
    injection this with this; injection this with _ this
    omega

theorem packBits_same (l : List Inp) : packBits l l = List.replicate l.length false := by
  induction l with
  | nil => rfl
  | cons a l ih => rw [packBits_cons, ih]; simp [oneBits, List.replicate_succ]
theorem packB_same {n : Nat} (h1 : 1 ≤ n) (h8 : n ≤ 8) : packB (List.replicate n false) = [0] := by
  have : n = 1 ∨ n = 2 ∨ n = 3 ∨ n = 4 ∨ n = 5 ∨ n = 6 ∨ n = 7 ∨ n = 8 := by omega
  rcases this with rfl | rfl | rfl | rfl | rfl | rfl | rfl | rfl <;> decide
theorem oneBits_ge (y x : Inp) : 1 ≤ (oneBits y x).length := by
  unfold oneBits; split
  · simp
  · simp
theorem packBits_ge : ∀ {l l' : List Inp}, l.length = l'.length → l.length ≤ (packBits l l').length := by
  intro l
  induction l with
  | nil => intro l' _; simp
  | cons y l ih =>
    intro l' h
    cases l' with
    | nil => simp at h
    | cons x l' =>
      rw [packBits_cons, List.length_append, List.length_cons]
      have := oneBits_ge y x
      have := ih (l' := l') (by simpa using h)
      omega
end Go.Proofs.Ytlgcdcjfobfoiaa
