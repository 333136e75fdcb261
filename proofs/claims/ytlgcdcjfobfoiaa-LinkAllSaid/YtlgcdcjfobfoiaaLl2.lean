/-
  LinkAll, plain: what the flights of the connection hold, and what the packets of a step do to both ends. Conditions: none.
-/
import Derived.Test.YtlgcdcjfobfoiaaLl1
namespace Go.Proofs.Ytlgcdcjfobfoiaa
open Go.RowKit
set_option maxRecDepth 100000

def toZ (l : List Nat) : List Int := l.map Int.ofNat
theorem toZ_inj {a b : List Nat} (h : toZ a = toZ b) : a = b := by
  unfold toZ at h
  induction a generalizing b with
  | nil => cases b with
    | nil => rfl
    | cons y b => simp at h
  | cons x a ih => cases b with
    | nil => simp at h
    | cons y b =>
      simp only [List.map_cons, List.cons.injEq] at h
      rw [ih h.2]
      congr 1
      have := h.1
      injection this
/-- A packet of end k. -/
def pkD (k nx f c : Nat) : List Nat := pktB nx f ((msgs k c).drop f)
theorem openR_pkD (k nx f c : Nat) (hn : nx ≤ 1000) (hf : f ≤ 1000) : openR (pkD k nx f c) = ((nx, f, ((msgs k c).drop f).take 8), 0) :=
  openR_pkt nx f _ (by omega) (by omega) fun m hm => by
    obtain ⟨i, _, rfl⟩ := msgs_mem (List.mem_of_mem_drop hm)
    simp
theorem msgs_take_len (k f c : Nat) : (((msgs k c).drop f).take 8).length = min 8 (c - f) := by rw [List.length_take, List.length_drop, msgs_length]

/-- A flight between the ends. m: what each end has sent; n: what each end has received. -/
structure FlG (m n : Nat → Nat) (x : Fl) : Prop where
  ex : ∃ k nx f0 c0 : Nat, k < 2 ∧ x.fr = (k : Int) ∧ x.to = ((1 - k : Nat) : Int) ∧ x.dat = toZ (pkD k nx f0 c0) ∧ nx ≤ n k ∧ f0 ≤ n (1 - k) ∧ c0 ≤ m k ∧ f0 ≤ c0
theorem FlG.mono {m n m' n' : Nat → Nat} {x : Fl} (h : FlG m n x) (hm : ∀ k, m k ≤ m' k) (hn : ∀ k, n k ≤ n' k) : FlG m' n' x := by
  obtain ⟨k, nx, f0, c0, h1, h2, h3, h4, h5, h6, h7, h8⟩ := h.ex
  exact ⟨k, nx, f0, c0, h1, h2, h3, h4, Nat.le_trans h5 (hn _), Nat.le_trans h6 (hn _), Nat.le_trans h7 (hm _), h8⟩
theorem FlG.key {m n : Nat → Nat} {x y : Fl} (h : FlG m n x) (hk : x.key = y.key) : FlG m n y := by
  obtain ⟨k, nx, f0, c0, h1, h2, h3, h4, h5⟩ := h.ex
  simp only [Fl.key, Prod.mk.injEq] at hk
  exact ⟨k, nx, f0, c0, h1, by rw [← hk.2.2.1]; exact h2, by rw [← hk.2.2.2.1]; exact h3, by rw [← hk.2.2.2.2]; exact h4, h5⟩

/-- Both ends. m: sent, f: acknowledged, n: received. -/
structure La (m f n : Nat → Nat) : Prop where
  fn : ∀ k, k < 2 → f k ≤ n (1 - k)
  nm : ∀ k, k < 2 → n k ≤ m (1 - k)
  big : ∀ k, m k ≤ 31
def upd (g : Nat → Nat) (j v : Nat) : Nat → Nat := fun i => if i = j then v else g i
theorem upd_same (g : Nat → Nat) (j v : Nat) : upd g j v j = v := by simp [upd]
theorem upd_other (g : Nat → Nat) {i j : Nat} (v : Nat) (h : i ≠ j) : upd g j v i = g i := by simp [upd, h]
theorem upd_le (g : Nat → Nat) (j v : Nat) (h : g j ≤ v) : ∀ i, g i ≤ upd g j v i := by
  intro i; unfold upd; split
  · rename_i e; subst e; exact h
  · exact Nat.le_refl _

/-- What a packet d of end k has done. -/
def EffD (f n : Nat → Nat) (k : Nat) (d : List Nat) : Prop := (openR d).1.1 ≤ f (1 - k) ∧ (openR d).1.2.1 + (openR d).1.2.2.length ≤ n (1 - k)
theorem EffD.mono {f n f' n' : Nat → Nat} {k : Nat} {d : List Nat} (h : EffD f n k d) (hf : ∀ i, f i ≤ f' i) (hn : ∀ i, n i ≤ n' i) : EffD f' n' k d :=
  ⟨Nat.le_trans h.1 (hf _), Nat.le_trans h.2 (hn _)⟩

/-- One packet. -/
theorem la_one {m f n : Nat → Nat} (h : La m f n) {k nx f0 c0 : Nat} (hk : k < 2) (h1 : nx ≤ n k) (h2 : f0 ≤ n (1 - k)) (h3 : c0 ≤ m k) (h4 : f0 ≤ c0) :
    La m (upd f (1 - k) (max (f (1 - k)) nx)) (upd n (1 - k) (max (n (1 - k)) (f0 + min 8 (c0 - f0)))) ∧
    EffD (upd f (1 - k) (max (f (1 - k)) nx)) (upd n (1 - k) (max (n (1 - k)) (f0 + min 8 (c0 - f0)))) k (pkD k nx f0 c0) ∧
    (∀ i, f i ≤ upd f (1 - k) (max (f (1 - k)) nx) i) ∧ (∀ i, n i ≤ upd n (1 - k) (max (n (1 - k)) (f0 + min 8 (c0 - f0))) i) := by
  have hb0 := h.big 0
  have hb1 := h.big 1
  have a0 := h.fn 0 (by omega)
  have a1 := h.fn 1 (by omega)
  have b0 := h.nm 0 (by omega)
  have b1 := h.nm 1 (by omega)
  simp only [Nat.sub_zero, Nat.sub_self] at a0 a1 b0 b1
  have hc : nx ≤ 1000 ∧ f0 ≤ 1000 := by
    rcases (show k = 0 ∨ k = 1 by omega) with rfl | rfl <;> simp only [Nat.sub_zero, Nat.sub_self] at h2 <;> omega
  refine ⟨⟨?_, ?_, h.big⟩, ?_, upd_le _ _ _ (Nat.le_max_left _ _), upd_le _ _ _ (Nat.le_max_left _ _)⟩
  · intro i hi
    rcases (show k = 0 ∨ k = 1 by omega) with rfl | rfl <;> rcases (show i = 0 ∨ i = 1 by omega) with rfl | rfl <;> simp only [upd, Nat.sub_zero, Nat.sub_self] at * <;> simp <;> omega
  · intro i hi
    rcases (show k = 0 ∨ k = 1 by omega) with rfl | rfl <;> rcases (show i = 0 ∨ i = 1 by omega) with rfl | rfl <;> simp only [upd, Nat.sub_zero, Nat.sub_self] at * <;> simp <;> omega
  · unfold EffD
    rw [openR_pkD k nx f0 c0 hc.1 hc.2, upd_same, upd_same]
    simp only [msgs_take_len]
    exact ⟨Nat.le_max_right _ _, Nat.le_max_right _ _⟩

/-- What both ends have got for sure, t steps after the deeds are over. -/
structure Prog (M t : Nat) (f n : Nat → Nat) : Prop where
  f : ∀ k, k < 2 → min M (8 * (t / 2)) ≤ f k
  n : ∀ k, k < 2 → min M (8 * ((t + 1) / 2)) ≤ n k
theorem Prog.zero (M : Nat) (f n : Nat → Nat) : Prog M 0 f n := ⟨fun _ _ => by simp, fun _ _ => by simp⟩
theorem Prog.mono {M t : Nat} {f n f' n' : Nat → Nat} (h : Prog M t f n) (hf : ∀ i, f i ≤ f' i) (hn : ∀ i, n i ≤ n' i) : Prog M t f' n' :=
  ⟨fun k hk => Nat.le_trans (h.f k hk) (hf k), fun k hk => Nat.le_trans (h.n k hk) (hn k)⟩
theorem Prog.next {M t : Nat} {f n f' n' : Nat → Nat} (h : Prog M t f n) (hb : ∀ k, k < 2 → n k ≤ 1000 ∧ f k ≤ 1000) (h0 : EffD f' n' 0 (pkD 0 (n 0) (f 0) M)) (h1 : EffD f' n' 1 (pkD 1 (n 1) (f 1) M)) : Prog M (t + 1) f' n' := by
  have f0 := h.f 0 (by omega)
  have f1 := h.f 1 (by omega)
  have n0 := h.n 0 (by omega)
  have n1 := h.n 1 (by omega)
  have b0 := hb 0 (by omega)
  have b1 := hb 1 (by omega)
  unfold EffD at h0 h1
  rw [openR_pkD 0 _ _ M b0.1 b0.2] at h0
  rw [openR_pkD 1 _ _ M b1.1 b1.2] at h1
  simp only [msgs_take_len, Nat.sub_zero, Nat.sub_self] at h0 h1
  have e1 : (t + 1 + 1) / 2 = t / 2 + 1 := by omega
  refine ⟨fun k hk => ?_, fun k hk => ?_⟩
  · rcases (show k = 0 ∨ k = 1 by omega) with rfl | rfl <;> omega
  · rw [e1]
    rcases (show k = 0 ∨ k = 1 by omega) with rfl | rfl <;> omega
theorem Prog.done {M t : Nat} {f n : Nat → Nat} (h : Prog M t f n) (hM : M ≤ 31) (ht : 8 ≤ t) : ∀ k, k < 2 → M ≤ f k ∧ M ≤ n k := by
  intro k hk
  have h1 := h.f k hk
  have h2 := h.n k hk
  omega

/-! ### how many flights there are -/
def cpk (ds : List Dd) (s : Int) : Nat := ds.countP fun d => decide (d.pk < s)
theorem cpk_le (ds : List Dd) (s : Int) : cpk ds s ≤ ds.length := List.countP_le_length
theorem cpk_next (ds : List Dd) (s : Int) : cpk ds s + (copOf ds s).length ≤ cpk ds (s + 1) := by
  induction ds with
  | nil => simp [cpk, copOf]
  | cons d ds ih =>
    have e1 : ∀ t, cpk (d :: ds) t = cpk ds t + if d.pk < t then 1 else 0 := fun t => by
      unfold cpk; rw [List.countP_cons]; by_cases h : d.pk < t <;> simp [h]
    have e2 : (copOf (d :: ds) s).length = (copOf ds s).length + if d.pk = s ∧ d.kind = 2 then 1 else 0 := by
      unfold copOf
      simp only [List.length_map, List.filter_cons]
      by_cases h1 : d.pk = s <;> by_cases h2 : d.kind = 2 <;> simp [h1, h2]
    rw [e1, e1, e2]
    split <;> split <;> split <;> omega
theorem times_le (ds : List Dd) (i now : Int) : (timesOf ds i now).length ≤ 1 + (copOf ds i).length := by
  unfold timesOf
  split
  · simp
  · simp; omega
/-- A packet without deeds. -/
theorem times_clean (ds : List Dd) (i now : Int) (h : ∀ d ∈ ds, d.pk ≠ i) : timesOf ds i now = [now + 1] := by
  have h1 : lostB ds i = false := by
    unfold lostB
    rw [List.any_eq_false]
    intro d hd
    simp [h d hd]
  have h2 : copOf ds i = [] := by
    unfold copOf
    rw [List.map_eq_nil_iff, List.filter_eq_nil_iff]
    intro d hd
    simp [h d hd]
  have h3 : lateOf ds i = 0 := by
    unfold lateOf
    rw [show (ds.filter fun d => d.pk == i && d.kind == 1) = [] from by
      rw [List.filter_eq_nil_iff]
      intro d hd
      simp [h d hd]]
    rfl
  unfold timesOf
  rw [h1, h2, h3]
  simp

theorem pkD_len (k nx f c : Nat) : 17 ≤ (pkD k nx f c).length ∧ (pkD k nx f c).length ≤ 49 := by
  have hle : ∀ (l : List (List Nat)) , (∀ m ∈ l, m.length = 2) → (l.flatMap msgB).length = 4 * l.length := by
    intro l
    induction l with
    | nil => simp
    | cons a l ih =>
      intro hl
      rw [List.flatMap_cons, List.length_append, ih fun m hm => hl m (List.mem_cons_of_mem _ hm)]
      have h2 := hl a (by simp)
      simp only [msgB, List.length_append, bigB_length, h2, List.length_cons]
      omega
  unfold pkD pktB bodyB
  rw [List.length_append, List.length_append, headB_length, bigB_length, hle _ fun m hm => by
    obtain ⟨i, _, rfl⟩ := msgs_mem (List.mem_of_mem_drop (List.mem_of_mem_take hm))
    rfl]
  rw [msgs_take_len]
  omega
end Go.Proofs.Ytlgcdcjfobfoiaa
