/-
  Plain: a valid world of few entities can be written as numbers, and the difference of two such worlds of the same kinds is short. The contracts of Kinds at 0, of Redo where there is no step, and of the fact on histories. Conditions: none.
-/
import Derived.Test.YtnidcmhfbkdioaaVf
import Derived.Test.YtnidcmhfbkdioaaMq
import Derived.Test.YtnidcmhfbkdioaaVl
namespace Go.Proofs.Ytnidcmhfbkdioaa
open Go.RowKit
set_option maxRecDepth 100000

/-! ### Vk -/
theorem i64r_app {a b : List Int} (ha : i64r a) (hb : i64r b) : i64r (a ++ b) := fun x hx => (List.mem_append.1 hx).elim (ha x) (hb x)
theorem i64r_flat {α : Type} {f : α → List Int} {l : List α} (h : ∀ a ∈ l, i64r (f a)) : i64r (l.flatMap f) := fun x hx => by
  obtain ⟨a, ha, hx⟩ := List.mem_flatMap.1 hx
  exact h a ha x hx
theorem i64r_nil : i64r [] := fun x hx => by cases hx
theorem i64r_cons {x : Int} {l : List Int} (h1 : -9223372036854775808 ≤ x) (h2 : x ≤ 9223372036854775807) (h : i64r l) : i64r (x :: l) := fun y hy => by
  rcases List.mem_cons.1 hy with e | hy
  · subst e; exact ⟨h1, h2⟩
  · exact h y hy
theorem i64r_text {s : ByteArray} (h : s.size ≤ 1000) : i64r (textF s) :=
  i64r_cons (by omega) (by omega) fun x hx => by have := byteL_rng s x hx; omega
theorem name_size {s : ByteArray} (h : nameF s = true) : s.size ≤ 16 := by
  rcases Nat.lt_or_ge 16 s.size with h1 | h1
  · rw [nameF_big h1] at h; cases h
  · exact h1
theorem field_nm {f : Fd} (h : fieldF f = 0) : f.nm.size ≤ 16 := by
  unfold fieldF at h
  split at h
  · rename_i h2; exact name_size h2.1
  · cases h
theorem one_nm {nm : ByteArray} {fds : List Fd} (h : oneF nm fds = 0) : nm.size ≤ 16 := by
  unfold oneF at h
  split at h
  · cases h
  · rename_i h1
    exact name_size (by simpa using h1)
theorem near_bnd {f : Fd} {v : Int} (h : fieldF f = 0) (hv : nearF f v = v) : -4294967296 ≤ v ∧ v ≤ 12884901888 := by
  obtain ⟨h1, h2, h3, h4⟩ := field_ok h
  unfold nearF highF at hv
  rw [if_pos h, if_pos h] at hv
  have hp := pow2_32 f.bits.toNat (by omega)
  have hp1 := pow2_one f.bits.toNat
  omega
theorem goodW_of {p : Wv Kp2} (h0 : checkF p.ks = 0) (h : VW holdK p) : GoodW p := by
  obtain ⟨h1, h2⟩ := check_len h0
  have hm := h.many
  have hl := h.its_len
  have hcm : ∀ t ∈ p.its, t.2.length ≤ 16 := fun t ht => by have := ((h.ok t ht).2.2).len_le; omega
  have hval : ∀ t ∈ p.its, ∀ c ∈ t.2, (0 ≤ c.1 ∧ c.1 < 16) ∧ c.2.length ≤ 8 ∧ i64r c.2 := fun t ht c hc => by
    obtain ⟨k, d, e1, e2, e⟩ := (h.ok t ht).2.2.ok c hc
    have hk := (List.getElem?_eq_some_iff.1 e2).1
    obtain ⟨g1, g2, g3⟩ := holdK_iff.1 e
    refine ⟨by omega, holdK_small e, fun x hx => ?_⟩
    obtain ⟨i, hi, rfl⟩ := List.getElem_of_mem hx
    have hf : d.2[i]? = some d.2[i] := List.getElem?_eq_getElem (by omega)
    have := g3 i _ hf
    have hgd : c.2.getD i 0 = c.2[i] := by simp [List.getD, List.getElem?_eq_getElem hi]
    rw [hgd] at this
    have := near_bnd (one_ok g1 (List.mem_of_getElem? hf)) this
    omega
  have hit : ∀ t ∈ p.its, (0 ≤ t.1.1 ∧ t.1.1 < 256) ∧ 0 ≤ t.1.2 ∧ t.1.2 ≤ 1073741824 := fun t ht => by
    obtain ⟨⟨n, e1, e2⟩, _⟩ := h.ok t ht
    have hn := (List.getElem?_eq_some_iff.1 e2).1
    have hg := h.gens _ (List.mem_of_getElem? e2)
    exact ⟨by omega, hg⟩
  have hs : Szs p := ⟨h1, fun k hk => ⟨one_nm (h2 k hk), oneF_len (h2 k hk), fun f hf => field_nm (one_ok (h2 k hk) hf)⟩, hm, by omega, fun t ht => ⟨hcm t ht, fun c hc => (hval t ht c hc).2.1⟩⟩
  refine ⟨hs, ⟨fun z hz => by have := h.gens z hz; exact wf_i64 (by omega) (by omega), fun t ht => ⟨by have := (hit t ht).1; exact wf_i64 (by omega) (by omega), by have := (hit t ht).2; exact wf_i64 (by omega) (by omega), fun c hc => by have := (hval t ht c hc).1; exact wf_i64 (by omega) (by omega)⟩⟩, ?_⟩
  unfold flatN flatB flatA
  refine i64r_app (i64r_app (i64r_app (i64r_app (i64r_app (i64r_app (i64r_app (i64r_app (i64r_cons (by omega) (by omega) (i64r_cons (by omega) (by omega) i64r_nil)) (i64r_flat fun k hk => ?_)) (i64r_cons (by omega) (by omega) i64r_nil)) (fun z hz => by have := h.gens z hz; omega)) (i64r_cons (by omega) (by omega) i64r_nil)) (i64r_flat fun t ht => ?_)) (i64r_cons (by omega) (by omega) i64r_nil)) (i64r_cons (by omega) (by omega) i64r_nil)) (i64r_cons (by omega) (by omega) i64r_nil)
  · have hk8 := oneF_len (h2 k hk)
    exact i64r_app (i64r_app (i64r_text (by have := one_nm (h2 k hk); omega)) (i64r_cons (by omega) (by omega) i64r_nil)) (i64r_flat fun f hf => by
      have hf0 := one_ok (h2 k hk) hf
      obtain ⟨f1, f2, f3, f4⟩ := field_ok hf0
      exact i64r_app (i64r_text (by have := field_nm hf0; omega)) (i64r_cons (by omega) (by omega) (i64r_cons (by omega) (by omega) i64r_nil)))
  · have a1 := hit t ht
    have a2 := hcm t ht
    exact i64r_app (i64r_cons (by omega) (by omega) (i64r_cons (by omega) (by omega) (i64r_cons (by omega) (by omega) i64r_nil))) (i64r_flat fun c hc => by
      obtain ⟨b1, b2, b3⟩ := hval t ht c hc
      exact i64r_app (i64r_cons (by omega) (by omega) (i64r_cons (by omega) (by omega) i64r_nil)) b3)

theorem ndR_le (a : List Int) : ∀ (r : List Int) (k : Nat), ndR a r k ≤ r.length := by
  intro r
  induction r with
  | nil => intro k; exact Nat.le_refl _
  | cons x r ih => intro k; rw [ndR, List.length_cons]; have := ih (k + 1); split <;> omega
theorem ndR_pre (a : List Int) : ∀ (P R : List Int) (k : Nat), a.drop k = P ++ a.drop (k + P.length) → ndR a (P ++ R) k ≤ R.length := by
  intro P
  induction P with
  | nil => intro R k _; exact ndR_le a R k
  | cons x P ih =>
    intro R k h
    have hx? : a[k]? = some x := by
      have := List.getElem?_drop (xs := a) (i := k) (j := 0)
      rw [h] at this
      simpa using this.symm
    have hx : x = bse a k := by simp [bse, List.getD, hx?]
    rw [List.cons_append, ndR, if_pos hx, Nat.zero_add]
    refine ih R (k + 1) ?_
    rw [← List.drop_drop, h, List.cons_append, List.drop_succ_cons, List.drop_zero, List.length_cons]
    congr 2; omega
theorem grp4 (v : Nat) (h : v ≤ 60000) : grp v ≤ 4 := by
  rcases Nat.lt_or_ge 4 (grp v) with h1 | h1
  · have h2 := grp_lo v (by omega)
    have h3 : 16 ^ 4 ≤ 16 ^ (grp v - 1) := Nat.pow_le_pow_right (by omega) (by omega)
    omega
  · exact h1
theorem encR_len4 (a : List Int) : ∀ (r : List Int) (k s : Nat), s ≤ k → k + r.length ≤ 60000 → (encR a r k s).length ≤ 20 + 100 * ndR a r k := by
  intro r
  induction r with
  | nil =>
    intro k s hs hk
    unfold encR
    split
    · rw [natB_length]; have := grp4 s (by simp at hk; omega); simp [ndR]; omega
    · simp
  | cons x r ih =>
    intro k s hs hk
    rw [List.length_cons] at hk
    unfold encR ndR
    split
    · have := ih (k + 1) (s + 1) (by omega) (by omega); omega
    · have := ih (k + 1) 0 (by omega) (by omega)
      have h1 := grp4 s (by omega)
      have hwr := wrap64_rng (x - bse a k)
      have h2 := (grp_le _ (zig_lt _ hwr.1 hwr.2)).2
      rw [List.length_append, List.length_append, natB_length, natB_length]; omega
theorem len_flat_le {α : Type} (f : α → List Int) (m : Nat) : ∀ l : List α, (∀ a ∈ l, (f a).length ≤ m) → (l.flatMap f).length ≤ l.length * m
  | [], _ => Nat.zero_le _
  | a :: r, h => by
    rw [List.flatMap_cons, List.length_append, List.length_cons, Nat.succ_mul]
    have h1 := h a (List.mem_cons_self ..)
    have h2 := len_flat_le f m r fun b hb => h b (List.mem_cons_of_mem _ hb)
    omega
theorem textF_len (s : ByteArray) : (textF s).length = s.size + 1 := by unfold textF; rw [List.length_cons, byteL_length]
/-- What follows the kinds. -/
def restN (p : Wv Kp2) : List Int := [(p.gens.length : Int)] ++ p.gens ++ [(p.its.length : Int)] ++ p.its.flatMap itN ++ [0] ++ [0] ++ [0]
theorem FW_split (p : Wv Kp2) : FW p = flatA 0 p ++ restN p := by simp [flatN, flatB, restN]
theorem flatA_len {p : Wv Kp2} (h : Szs p) : (flatA 0 p).length ≤ 2722 := by
  unfold flatA
  have h1 := len_flat_le kdN 170 p.ks fun k hk => by
    obtain ⟨a1, a2, a3⟩ := h.kd k hk
    have h2 := len_flat_le fdN 19 k.2 fun f hf => by have := a3 f hf; simp only [fdN, List.length_append, textF_len, List.length_cons, List.length_nil]; omega
    simp only [kdN, List.length_append, textF_len, List.length_cons, List.length_nil]
    omega
  have := h.ks
  simp only [List.length_append, List.length_cons, List.length_nil]
  omega
theorem restN_len {p : Wv Kp2} (h : Szs p) {m : Nat} (hg : p.gens.length ≤ m) (hi : p.its.length ≤ m) : (restN p).length ≤ 5 + m + m * 163 := by
  unfold restN
  have h1 := len_flat_le itN 163 p.its fun t ht => by
    obtain ⟨a1, a2⟩ := h.it t ht
    have h2 := len_flat_le cmN 10 t.2 fun c hc => by have := a2 c hc; simp only [cmN, List.length_append, List.length_cons, List.length_nil]; omega
    simp only [itN, List.length_append, List.length_cons, List.length_nil]
    omega
  have h3 : p.its.length * 163 ≤ m * 163 := Nat.mul_le_mul_right _ hi
  simp only [List.length_append, List.length_cons, List.length_nil]
  omega
theorem encOk_of {a b : Wv Kp2} (ha : Szs a) (hb : Szs b) (hk : b.ks = a.ks) (ga : a.gens.length ≤ 27) (ia : a.its.length ≤ 27) (gb : b.gens.length ≤ 27) (ib : b.its.length ≤ 27) : encOk (FW a) (FW b) := by
  have l1 := flatA_len ha
  have l2 := restN_len ha ga ia
  have l3 := flatA_len hb
  have l4 := restN_len hb gb ib
  have e : flatA 0 b = flatA 0 a := by unfold flatA; rw [hk]
  have hA : (FW a).length ≤ 8000 := by rw [FW_split, List.length_append]; omega
  have hB : (FW b).length ≤ 8000 := by rw [FW_split, List.length_append]; omega
  have hnd : ndR (FW a) (FW b) 0 ≤ 4433 := by
    have := ndR_pre (FW a) (flatA 0 b) (restN b) 0 (by rw [List.drop_zero, Nat.zero_add, FW_split a, e, List.drop_left])
    rw [FW_split b]
    omega
  refine ⟨by omega, by omega, ?_⟩
  rw [encB_R, encH]
  have h1 := encR_len4 (FW a) (FW b) 0 0 (Nat.le_refl _) (by omega)
  have h2 := grp4 (FW b).length (by omega)
  simp only [List.length_append, bitsOf_length, natB_length]
  omega

/-! ### Vn -/
theorem res_c1 {fn : Func} {p : Tmp} {ty : TypeId} (h : fn.results = #[.cell p ty]) (tmps : Array Value) (P : Program) (w : World) :
    (results fn tmps).run P w = ((asAddr (tmps.getD p undef)).run P w).andThen fun a w₁ => (loadVar ty a).run P w₁ := by
  simp only [results, h]
  simp [Sem.run_bind, Result.andThen]

set_option maxHeartbeats 800000 in
theorem mkField_any (nm : ByteArray) (b l : Int) (w : World) : Calls Try.prog 167 #[.string nm, .int .i64 b, .int .i64 l] w fun e w' => e = .returned (.agg #[.string nm, .int .i64 b, .int .i64 l]) ∧ Below w.heap.size w w' := by
  have hk := Bk.new w 66 #[.string ByteArray.empty, .int .i64 0, .int .i64 0]
  have q0 := hk.cell 0
  have q1 := hk.cell 1
  have q2 := hk.cell 2
  have g0 := hk.frozen 0
  have g1 := hk.frozen 1
  have g2 := hk.frozen 2
  simp only [List.getElem?_toArray, List.getElem?_cons_zero, List.getElem?_cons_succ] at q0 q1 q2
  clear hk
  go_enter Try.func167, Try.ntmps167
  go_wp2_with fail
  (try simp only [Exit.inBlock, Exit.then])
  refine bodyPost_ret (v := .agg #[.string nm, .int .i64 b, .int .i64 l]) ?_ rfl ⟨rfl, ?_⟩
  · rw [res_c1 rfl]
    go_simp
  · exact (Below.refl _ w).alloc (Nat.le_refl _) _

theorem and01 : (bits BinOp.and IntKind.i64 0 1 == 1) = false := by decide +kernel
theorem and02 : (bits BinOp.and IntKind.i64 0 2 == 2) = false := by decide +kernel
theorem and04 : (bits BinOp.and IntKind.i64 0 4 == 4) = false := by decide +kernel
def k0f : List Fd := [⟨⟨#[120]⟩, 8, (-100)⟩, ⟨⟨#[121]⟩, 8, (-100)⟩]
def k0n : ByteArray := ⟨#[115, 112, 111, 116]⟩
theorem k0_check : wcheckF (⟨[(k0n, k0f)], [0], []⟩ : Wv Kp2) = 0 := by decide +kernel

set_option maxHeartbeats 1600000 in
theorem kinds0_any (w : World) : Calls Try.prog 96 #[.int .i64 0] w fun e w' => ∃ g ks, e = .returned (.slice (some ⟨g, 0, none⟩) 1 1) ∧ Hid (KsY w' 0 (some ⟨g, 0, none⟩) 1 1 ks ∧ ks.map Kd.p = [(k0n, k0f)]) ∧ Below w.heap.size w w' := by
  have HF := Lib.hid mkField_any
  have t1 := and01
  have t2 := and02
  have t3 := and04
  go_enter Try.func96, Try.ntmps96
  go_wp2_with fail
  refine (HF.out ⟨#[120]⟩ 8 (-100) _).mono ?_
  rintro e w1 ⟨rfl, hb1⟩
  have HB1 := Lib.hid hb1
  clear hb1
  go_wp2_with fail
  refine (HF.out ⟨#[121]⟩ 8 (-100) _).mono ?_
  rintro e w2 ⟨rfl, hb2⟩
  have HB2 := Lib.hid (HB1.out.trans (hb2.mono HB1.out.size))
  clear hb2 HB1
  go_wp2_with fail
  go_ret
  have hk1 : Bk ((w2.alloc (.cells #[.string ⟨#[120]⟩, .int .i64 8, .int .i64 (-100), .string ⟨#[121]⟩, .int .i64 8, .int .i64 (-100)] 66)).alloc (.cells #[.string ⟨#[115, 112, 111, 116]⟩, .slice (some ⟨w2.heap.size, 0, none⟩) 2 2] 63)) w2.heap.size 66 (fdCs k0f).toArray := (Bk.new _ _ _).alloc _
  have hk2 : Bk ((w2.alloc (.cells #[.string ⟨#[120]⟩, .int .i64 8, .int .i64 (-100), .string ⟨#[121]⟩, .int .i64 8, .int .i64 (-100)] 66)).alloc (.cells #[.string ⟨#[115, 112, 111, 116]⟩, .slice (some ⟨w2.heap.size, 0, none⟩) 2 2] 63)) (w2.heap.size + 1) 63 (kdCs [⟨k0n, some ⟨w2.heap.size, 0, none⟩, 2, 2, k0f⟩]).toArray := Bk.two _ _ _ _
  refine ⟨w2.heap.size + 1, [⟨k0n, some ⟨w2.heap.size, 0, none⟩, 2, 2, k0f⟩], rfl, Lib.hid ⟨⟨.of_bk hk2 rfl (fun j u hu => by simpa using hu), rfl, Nat.le_refl _, by omega, fun k hk => ?_⟩, rfl⟩, ?_⟩
  · rw [List.mem_singleton.1 hk]
    exact ⟨.of_bk hk1 rfl (fun j u hu => by simpa using hu), rfl, Nat.le_refl _, by show (2 : Nat) ≤ _; omega⟩
  · exact (HB2.out.alloc HB2.out.size _).alloc (by have := HB2.out.size; simp; omega) _

/-- A world in a block. -/
def St (w : World) (b : Nat) (x : Wd) : Prop := Bk w b 52 #[.slice x.kA x.kn x.kc, .slice x.gA x.gn x.gc, .slice x.iA x.im x.ic] ∧ WdY w 0 x
theorem WdY.below {w w' : World} {x : Wd} (h : WdY w 0 x) (hb : Below w.heap.size w w') : WdY w' 0 x := h.keep (F := []) (Kx.of_below (B := 0) hb) (by simp) (by simp) (by simp) (by simp) (by simp)
theorem St.below {w w' : World} {b : Nat} {x : Wd} (h : St w b x) (hb : Below w.heap.size w w') : St w' b x := ⟨h.1.below hb h.1.lt, h.2.below hb⟩
theorem St.alloc {w : World} {b : Nat} {x : Wd} (h : St w b x) (o : Obj) : St (w.alloc o) b x := h.below ((Below.refl _ _).alloc (Nat.le_refl _) o)
theorem St.new {w : World} {x : Wd} (h : WdY w 0 x) : St (w.alloc (.cells #[.slice x.kA x.kn x.kc, .slice x.gA x.gn x.gc, .slice x.iA x.im x.ic] 52)) w.heap.size x := ⟨Bk.new _ _ _, h.below ((Below.refl _ _).alloc (Nat.le_refl _) _)⟩
theorem St.cs {w : World} {b : Nat} {x : Wd} (h : St w b x) : w.cell? ⟨b, 0, none⟩ = some (.slice x.kA x.kn x.kc) ∧ w.cell? ⟨b, 1, none⟩ = some (.slice x.gA x.gn x.gc) ∧ w.cell? ⟨b, 2, none⟩ = some (.slice x.iA x.im x.ic) := ⟨h.1.cell 0, h.1.cell 1, h.1.cell 2⟩

theorem k1_check : wcheckF (⟨[(k0n, k0f)], [], []⟩ : Wv Kp2) = 0 := by decide +kernel
theorem k2_check : wcheckF (⟨[(k0n, k0f)], [1], []⟩ : Wv Kp2) = 0 := by decide +kernel
theorem and15 (n : Int) : bits BinOp.and IntKind.i64 n 15 = n % 16 := by
  have h15 : (BitVec.ofInt 64 15).toNat = 2 ^ 4 - 1 := by decide
  have key : (BitVec.ofInt 64 n &&& BitVec.ofInt 64 15).toNat = (n % ((2 ^ 64 : Nat) : Int)).toNat % 2 ^ 4 := by
    rw [BitVec.toNat_and, BitVec.toNat_ofInt, h15, Nat.and_two_pow_sub_one_eq_mod]
  show IntKind.i64.wrap ((BitVec.ofInt 64 n &&& BitVec.ofInt 64 15).toNat : Nat) = n % 16
  rw [key, IntKind.wrap_i64]
  omega
theorem good_of {p : Wv Kp2} (h : wcheckF p = 0) : GoodW p := by
  obtain ⟨a, b⟩ := vw_of h
  exact goodW_of a b
theorem RowM.nil_ (w : World) (base : Nat) : RowM w base none 0 0 [] := ⟨RdY.nil_ _, rfl, Nat.le_refl _, by omega, .inl ⟨rfl, fun _ => rfl⟩, (fun s hs => by cases hs), fun q hq => by simp [Value.ownBlock] at hq⟩
theorem GsY.nil_ (w : World) : GsY w 0 none 0 0 [] := ⟨RdY.nil_ _, rfl, Nat.le_refl _, by omega, fun g hg => by cases hg⟩
theorem IsY.nil_ (w : World) : IsY w 0 none 0 0 [] := ⟨RdY.nil_ _, rfl, Nat.le_refl _, by omega, fun g hg => by cases hg⟩

set_option maxHeartbeats 1600000 in
theorem redo_none (hb : Nat) (x : Wd) (R1 : Value) (gA : Option Addr) (gc : Nat) (w : World) (hk : HsB w hb x R1 (.slice gA 0 gc)) :
    Calls Try.prog 87 #[.pointer (some ⟨hb, 0, none⟩)] w fun e w' => e = .returned (.tuple #[.string ⟨#[]⟩, .int .i64 4]) ∧ w' = w := by
  have a4 : w.cell? ⟨hb, 4, none⟩ = some (.slice gA 0 gc) := Bk.cell hk 4
  clear hk
  go_enter Try.func87, Try.ntmps87
  go_wp2_with fail
  go_ret2
  exact ⟨rfl, rfl⟩

set_option maxHeartbeats 4000000 in
theorem undoes_any (w : World) : Calls Try.prog 83 #[] w fun e w' => e = .returned (.bool true) ∧ Below w.heap.size w w' := by
  have HK := Lib.hid kinds0_any
  go_enter Try.func83, Try.ntmps83
  go_wp2_with fail
  with_reducible refine (HK.out w).mono ?_
  rintro e w1 ⟨g, ks, rfl, HK1, hb1⟩
  have hw1 : WdY w1 0 ⟨some ⟨g, 0, none⟩, 1, 1, ks, none, 0, 0, [], none, 0, 0, []⟩ := ⟨HK1.out.1, GsY.nil_ _, IsY.nil_ _⟩
  have hp1 : (⟨some ⟨g, 0, none⟩, 1, 1, ks, none, 0, 0, [], none, 0, 0, []⟩ : Wd).p = ⟨[(k0n, k0f)], [], []⟩ := by unfold Wd.p; rw [HK1.out.2]; rfl
  have HN := Lib.hid (new82_any ⟨some ⟨g, 0, none⟩, 1, 1, ks, none, 0, 0, [], none, 0, 0, []⟩ w1.heap.size w1 hw1.ok_ (Nat.le_refl _) (by rw [hp1]; exact (good_of k1_check).sz) (by rw [hp1]; exact k1_check))
  rw [hp1] at HN
  dsimp only at HN
  have HB1 := Lib.hid hb1
  clear hw1 hp1 hb1
  go_wp2_with fail
  with_reducible refine (HN.out).mono ?_
  clear HN
  rintro e w2 ⟨hb, y, rfl, HY, hb2⟩
  have HB2 := Lib.hid hb2
  have hz1 : w.heap.size ≤ w1.heap.size := HB1.out.size
  have hz2 : w1.heap.size ≤ w2.heap.size := hb2.size
  clear hb2
  go_wp2_with fail
  with_reducible refine (HK.out w2).mono ?_
  rintro e w3 ⟨g3, ks3, rfl, HK3, hb3⟩
  have hz3 : w2.heap.size ≤ w3.heap.size := hb3.size
  obtain ⟨w4, hw4⟩ : ∃ w4, w4 = w3.alloc (.cells #[.int .i64 1] 3) := ⟨_, rfl⟩
  have hb4 : Below w2.heap.size w2 w4 := by rw [hw4]; exact hb3.alloc hz3 _
  have hk4 : Kx 0 [] w3 w4 := by rw [hw4]; exact Kx.refl.alloc _
  have hg4 : Bk w4 w3.heap.size 3 #[.int .i64 1] := by rw [hw4]; exact Bk.new _ _ _
  have hv4 : WdY w4 0 ⟨some ⟨g3, 0, none⟩, 1, 1, ks3, some ⟨w3.heap.size, 0, none⟩, 1, 1, [1], none, 0, 0, []⟩ :=
    ⟨HK3.out.1.keep hk4 (by simp) (by simp), ⟨RdY.of_bk hg4 rfl (fun j u hu => by simpa using hu), rfl, Nat.le_refl _, by show (1 : Nat) ≤ _; omega, fun z hz => by rw [List.mem_singleton.1 hz]; decide⟩, IsY.nil_ _⟩
  have hp4 : (⟨some ⟨g3, 0, none⟩, 1, 1, ks3, some ⟨w3.heap.size, 0, none⟩, 1, 1, [1], none, 0, 0, []⟩ : Wd).p = ⟨[(k0n, k0f)], [1], []⟩ := by unfold Wd.p; rw [HK3.out.2]; rfl
  have hyp : y.p = ⟨[(k0n, k0f)], [], []⟩ := HY.out.2.2.1
  have ga := good_of k1_check
  have gb := good_of k2_check
  have HD := Lib.hid (do_any hb w.heap.size y ⟨some ⟨g3, 0, none⟩, 1, 1, ks3, some ⟨w3.heap.size, 0, none⟩, 1, 1, [1], none, 0, 0, []⟩ ⟨#[97]⟩ none none 0 0 0 0 [] [] w4 ⟨HY.out.1.far hb4, HY.out.2.1.below hb4, RowM.nil_ _ _, RowM.nil_ _ _, (fun q hq => by simp [Value.ownBlock] at hq), by have := HY.out.2.2.2; omega⟩ hv4 (by rw [hp4]; exact k2_check) (by rw [hp4, hyp]; intro e; injection e with _ e _; cases e) (by rw [hyp]; exact ga) (by rw [hp4]; exact gb) (by rw [hp4, hyp]; exact encOk_of ga.sz gb.sz rfl (by simp) (by simp) (by simp) (by simp)) (by rw [hp4, hyp]; exact encOk_of gb.sz ga.sz rfl (by simp) (by simp) (by simp) (by simp)) (by omega) (by have := hb4.size; omega))
  rw [hp4] at HD
  dsimp only at HD
  have HB4 := Lib.hid hb4
  have HW4 := Lib.hid hw4
  clear hw4 hb4 hk4 hg4 hv4 hp4 hyp ga gb hb3
  go_wp2_with fail
  rw [← HW4.out]
  clear HW4
  with_reducible refine (HD.out).mono ?_
  clear HD
  rintro e w5 ⟨y5, A5, c5, s, rfl, HH5, HKZ⟩
  have HNW := Lib.hid (now_any hb y5 _ _ w5 HH5.out.1.bk HH5.out.1.x (by rw [HH5.out.2.1]; exact (good_of k2_check).sz))
  go_wp2_with fail
  with_reducible refine (HNW.out).mono ?_
  clear HNW
  rintro e w6 ⟨y6, rfl, HY6, hb6⟩
  have hgn : y6.gn = 1 := by
    have h1 := HY6.out.1.gs.len
    have h2 : y6.gens = [1] := by
      have h3 := HY6.out.2.trans HH5.out.2.1
      have h4 := congrArg Wv.gens h3
      exact h4
    rw [h1, h2]; rfl
  obtain ⟨kA, kn, kc, ks6, gA, gn, gc, gens, iA, im, ic, its⟩ := y6
  dsimp only at hgn ⊢
  subst hgn
  have hfld : ∀ wx, (Instr.field 52 (.agg #[.slice kA kn kc, .slice gA 1 gc, .slice iA im ic]) 1).run Try.prog wx = .ok (.slice gA 1 gc) wx := fun _ => by kernel_rfl
  have HB6 := Lib.hid hb6
  clear hb6
  go_wp2_with fail
  go_ret
  exact ⟨rfl, (((HB1.out.trans (HB2.out.mono hz1)).trans (HB4.out.mono (by omega))).trans ((HKZ.out.toBelow (by have := HB4.out.size; omega)).mono (Nat.le_refl _))).trans (HB6.out.mono (by have := HKZ.out.kx.size; have := HB4.out.size; omega))⟩
end Go.Proofs.Ytnidcmhfbkdioaa
