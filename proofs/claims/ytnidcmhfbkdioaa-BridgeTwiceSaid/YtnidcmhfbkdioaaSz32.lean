/-
  bridge.Map.body. Conditions: what is read can be read; values that are not great.
-/
import Derived.Test.YtnidcmhfbkdioaaSz12
import Derived.Test.YtnidcmhfbkdioaaSz11
namespace Go.Proofs.Ytnidcmhfbkdioaa
open Go.RowKit
set_option maxRecDepth 100000
section
variable {P : Program} {ops : Array Oper} {Q : Exit → Act → World → Prop} {md : Region.Mode} {S : World → Prop}
theorem wpAnyH_two {i j : Nat} {oi oj : Oper} {fuel : Nat} {listed : Array Bool} {a : Act} {w : World} (hi : ops[i]? = some oi) (hj : ops[j]? = some oj) (hr : Region.ready md ops listed = [i, j]) (hg : Region.wanted oi (yielded ops a.tmps) = true) (hg' : Region.wanted oj (yielded ops a.tmps) = true)
    (h1 : oi.wp P a w (fun a' w' => S w' ∧ wpAnyH P md ops Q S fuel (listed.setIfInBounds i true) a' w') Q) (h2 : oj.wp P a w (fun a' w' => S w' ∧ wpAnyH P md ops Q S fuel (listed.setIfInBounds j true) a' w') Q) : wpAnyH P md ops Q S (fuel + 1) listed a w :=
  wpAnyH_all hr (by simp) fun k hk => by
    rcases (by simpa using hk : k = i ∨ k = j) with e | e
    · subst e
      unfold wpOp
      simp only [hi, hg, if_true]
      exact .inl h1
    · subst e
      unfold wpOp
      simp only [hj, hg', if_true]
      exact .inl h2
end
/-- A body: its numbers, and the halves of its width and height. -/
structure Bo where
  px : Int
  py : Int
  vx : Int
  vy : Int
  ang : Int
  spin : Int
  mass : Int
  inr : Int
  bou : Int
  rub : Int
  asl : Bool
  calm : Int
  w : Int
  h : Int
def crn (b : Bo) : List Int := [-b.w, -b.h, b.w, -b.h, b.w, b.h, -b.w, b.h]
def atI (l : List Int) (k : Nat) : Int := l.getD k 0
/-- The inertia of a body. -/
def inrF (m w h : Nat) : Nat := mdF (mdF m (mdF w w 65536 + mdF h h 65536) 65536) 65536 196608
def bo0 (p s : List Int) : Bo := ⟨wiF (atI p 0) (-58982400) 58982400, wiF (atI p 1) (-58982400) 58982400, 0, 0, atI p 2 % 65536, 0, 0, 0, wiF (atI s 3) 0 65536, wiF (atI s 4) 0 65536, false, 0, wiF (atI s 0) 4096 1048576, wiF (atI s 1) 4096 1048576⟩
def bo1 (p s v : List Int) : Bo :=
  { bo0 p s with
    vx := wiF (atI v 0) (-268435456) 268435456
    vy := wiF (atI v 1) (-268435456) 268435456
    spin := wiF (atI v 2) (-16777216) 16777216
    mass := wiF (atI s 2) 4096 65536000
    inr := max ((inrF (wiF (atI s 2) 4096 65536000).toNat (wiF (atI s 0) 4096 1048576).toNat (wiF (atI s 1) 4096 1048576).toNat : Nat) : Int) 1
    calm := wiF ((atI v 3).tdiv 2) 0 1000
    asl := decide (0 < atI v 3 ∧ (atI v 3).tmod 2 = 1 ∧ wiF (atI v 0) (-268435456) 268435456 = 0 ∧ wiF (atI v 1) (-268435456) 268435456 = 0 ∧ wiF (atI v 2) (-16777216) 16777216 = 0) }
/-- The body of components; m: the numbers of the kinds place, motion, shape. -/
def bodyF (m0 m1 m2 : Int) (l : List Cm) : Option Bo :=
  match cmAt l m0, cmAt l m2 with
  | some p, some s => match cmAt l m1 with
    | some v => if atI s.vals 2 < 1 then some (bo0 p.vals s.vals) else some (bo1 p.vals s.vals v.vals)
    | none => some (bo0 p.vals s.vals)
  | _, _ => none
/-- A body as a value; its corners in a row at block g. -/
def Bo.v (b : Bo) (g c : Nat) : Array Value := #[.int .i64 b.px, .int .i64 b.py, .int .i64 b.vx, .int .i64 b.vy, .int .i64 b.ang, .int .i64 b.spin, .int .i64 b.mass, .int .i64 b.inr, .int .i64 b.bou, .int .i64 b.rub, .slice (some ⟨g, 0, none⟩) 4 c, .bool b.asl, .int .i64 b.calm]
def BoZ : Array Value := #[.int .i64 0, .int .i64 0, .int .i64 0, .int .i64 0, .int .i64 0, .int .i64 0, .int .i64 0, .int .i64 0, .int .i64 0, .int .i64 0, .slice none 0 0, .bool false, .int .i64 0]
def BoP (w : World) (r : Option Bo) (e : Ending) (w' : World) : Prop :=
  Below w.heap.size w w' ∧ match r with
  | none => e = .returned (.tuple #[.agg BoZ, .bool false])
  | some b => ∃ g c, e = .returned (.tuple #[.agg (b.v g c), .bool true]) ∧ w'.ownsRow w.heap.size 105 2 (.slice (some ⟨g, 0, none⟩) 4 c) 4 ((crn b).map (Value.int .i64))
/-- What the body of an entity asks of its components. -/
theorem Bk.twoB (w : World) (o : Obj) (t : TypeId) (cs : Array Value) : Bk ((w.alloc o).alloc (.cells cs t)) (w.heap.size + 1) t cs := by simpa using Bk.new (w.alloc o) t cs
structure VaOk (l : List Cm) (k : Int) (n : Nat) : Prop where
  len : ∀ cm, cmAt l k = some cm → cm.vals.length = n
  rng : ∀ cm, cmAt l k = some cm → ∀ v ∈ cm.vals, -8589934592 ≤ v ∧ v ≤ 8589934592
/-- A row of values, cell by cell. -/
theorem CsOk.atv {w : World} {B n c : Nat} {A : Option Addr} {l : List Cm} (h : CsOk w B A n c l) {k : Int} {cm : Cm} (hc : cmAt l k = some cm) {N : Nat} (hl : cm.vals.length = N) (hN : 0 < N) :
    ∃ b o, cm.A = some ⟨b, o, none⟩ ∧ b < B ∧ cm.n = N ∧ cm.n ≤ cm.c ∧ cm.c ≤ 9223372036854775807 ∧ ∀ j, j < N → w.cell? ⟨b, o + j, none⟩ = some (.int .i64 (atI cm.vals j)) := by
  have hm := List.mem_of_find?_eq_some hc
  have ho := h.ok cm hm
  have hn : cm.n = N := by rw [ho.len]; exact hl
  obtain ⟨b, o, e, hb, hce⟩ := ho.rd.2 (by omega)
  refine ⟨b, o, e, hb, hn, ho.cap, ho.cap2, fun j hj => hce j _ ?_⟩
  rw [List.getElem?_map, List.getElem?_eq_getElem (by omega)]
  unfold atI
  rw [List.getD_eq_getElem?_getD, List.getElem?_eq_getElem (by omega)]
  rfl
/-- A body is stored in a block. -/
def set13 (w : World) (g : Nat) (v0 v1 v2 v3 v4 v5 v6 v7 v8 v9 v10 v11 v12 : Value) : World :=
  ((((((((((((w.setCell ⟨g, 0, none⟩ v0).setCell ⟨g, 1, none⟩ v1).setCell ⟨g, 2, none⟩ v2).setCell ⟨g, 3, none⟩ v3).setCell ⟨g, 4, none⟩ v4).setCell ⟨g, 5, none⟩ v5).setCell ⟨g, 6, none⟩ v6).setCell ⟨g, 7, none⟩ v7).setCell ⟨g, 8, none⟩ v8).setCell ⟨g, 9, none⟩ v9).setCell ⟨g, 10, none⟩ v10).setCell ⟨g, 11, none⟩ v11).setCell ⟨g, 12, none⟩ v12
theorem atI_mem {l : List Int} {k : Nat} (h : k < l.length) : atI l k ∈ l := by
  unfold atI
  rw [List.getD_eq_getElem?_getD, List.getElem?_eq_getElem h]
  exact List.getElem_mem h
theorem tmod_rng (p : Int) : -65536 < p.tmod 65536 ∧ p.tmod 65536 < 65536 := by
  have h := Int.tmod_lt_of_pos p (show (0 : Int) < 65536 by decide)
  have h2 := Int.lt_tmod_of_pos p (show (0 : Int) < 65536 by decide)
  exact ⟨h2, h⟩
theorem tmod_em16 (p : Int) : (p.tmod 65536 + 65536).tmod 65536 = p % 65536 := by
  have h := tmod_rng p
  rw [Int.tmod_eq_emod_of_nonneg (by omega)]
  rcases Int.le_total 0 p with h0 | h0
  · rw [Int.tmod_eq_emod_of_nonneg h0]; omega
  · obtain ⟨n, rfl⟩ : ∃ n : Nat, p = -(n : Int) := ⟨(-p).toNat, by omega⟩
    rw [Int.neg_tmod, Int.tmod_eq_emod_of_nonneg (by omega)]; omega
theorem sq_le {a b : Nat} (ha : a ≤ 1048576) (hb : b ≤ 1048576) : a * b ≤ 9007199254740992 := Nat.le_trans (Nat.mul_le_mul ha hb) (by decide)
theorem md_sq {a : Nat} (ha : a ≤ 1048576) : mdF a a 65536 ≤ 16777217 := by
  have h := mdF_le a a 65536
  have h2 := Nat.mul_le_mul ha ha
  omega
theorem md_mul {a b : Nat} (ha : a ≤ 65536000) (hb : b ≤ 33554434) : a * b ≤ 9007199254740992 ∧ mdF a b 65536 ≤ 137438953472 := by
  have h := mdF_le a b 65536
  have h2 := Nat.mul_le_mul ha hb
  constructor <;> omega
theorem tdiv2_rng (v N : Int) (h : -N ≤ v ∧ v ≤ N) : -N ≤ v.tdiv 2 ∧ v.tdiv 2 ≤ N := by
  rcases Int.le_total 0 v with h0 | h0
  · rw [Int.tdiv_eq_ediv_of_nonneg h0]; omega
  · obtain ⟨n, rfl⟩ : ∃ n : Nat, v = -(n : Int) := ⟨(-v).toNat, by omega⟩
    rw [Int.neg_tdiv, Int.tdiv_eq_ediv_of_nonneg (by omega)]; omega
theorem eqiB (d : Nat) (a b : Int) (w : World) : Sem.run Try.prog (Op.equalIn (d + 1) 3 (.int .i64 a) (.int .i64 b)) w = .ok (a == b) w := run_equalIn_int w d 3 .i64 .i64 a b Try.underlying3
theorem eq105 (a b c d : Int) (w : World) : Sem.run Try.prog (Op.equalIn 10000 105 (.agg #[.int .i64 a, .int .i64 b]) (.agg #[.int .i64 c, .int .i64 d])) w = .ok (decide (a = c ∧ b = d)) w := by
  have h3 := fun a b => eqiB 9998 a b
  have ha : ∀ w, Sem.run Try.prog (isAgg 3) w = .ok false w := fun w => by simp [isAgg, run_underlying Try.underlying3, go_sem]
  rw [show (9998 + 1 : Nat) = 9999 from rfl] at h3
  rw [show (10000 : Nat) = 9999 + 1 from rfl]
  unfold Op.equalIn
  simp [run_underlying Try.underlying105, go_sem, ha, h3, part]
  by_cases h1 : a = c <;> by_cases h2 : b = d <;> simp [h1, h2]
theorem set13_below {w0 w : World} {base g : Nat} {v0 v1 v2 v3 v4 v5 v6 v7 v8 v9 v10 v11 v12 : Value} (h : Below base w0 w) (hg : base ≤ g) : Below base w0 (set13 w g v0 v1 v2 v3 v4 v5 v6 v7 v8 v9 v10 v11 v12) := by
  unfold set13
  (repeat' first | with_reducible exact h | with_reducible refine Below.setCell ?_ hg _)
theorem set13_bk {w : World} {g : Nat} {t : TypeId} {c0 c1 c2 c3 c4 c5 c6 c7 c8 c9 c10 c11 c12 v0 v1 v2 v3 v4 v5 v6 v7 v8 v9 v10 v11 v12 : Value} (h : Bk w g t #[c0, c1, c2, c3, c4, c5, c6, c7, c8, c9, c10, c11, c12]) : Bk (set13 w g v0 v1 v2 v3 v4 v5 v6 v7 v8 v9 v10 v11 v12) g t #[v0, v1, v2, v3, v4, v5, v6, v7, v8, v9, v10, v11, v12] := by
  unfold set13
  have hk := (((((((((((((h.set_ 0 v0).set_ 1 v1).set_ 2 v2).set_ 3 v3).set_ 4 v4).set_ 5 v5).set_ 6 v6).set_ 7 v7).set_ 8 v8).set_ 9 v9).set_ 10 v10).set_ 11 v11).set_ 12 v12)
  simpa using hk
theorem set13_ne {w : World} {g g' : Nat} {t : TypeId} {cs : Array Value} {v0 v1 v2 v3 v4 v5 v6 v7 v8 v9 v10 v11 v12 : Value} (h : Bk w g' t cs) (hne : g' ≠ g) : Bk (set13 w g v0 v1 v2 v3 v4 v5 v6 v7 v8 v9 v10 v11 v12) g' t cs := by
  unfold set13
  exact ((((((((((((h.far (p := ⟨g, 0, none⟩) hne v0).far (p := ⟨g, 1, none⟩) hne v1).far (p := ⟨g, 2, none⟩) hne v2).far (p := ⟨g, 3, none⟩) hne v3).far (p := ⟨g, 4, none⟩) hne v4).far (p := ⟨g, 5, none⟩) hne v5).far (p := ⟨g, 6, none⟩) hne v6).far (p := ⟨g, 7, none⟩) hne v7).far (p := ⟨g, 8, none⟩) hne v8).far (p := ⟨g, 9, none⟩) hne v9).far (p := ⟨g, 10, none⟩) hne v10).far (p := ⟨g, 11, none⟩) hne v11).far (p := ⟨g, 12, none⟩) hne v12
set_option maxHeartbeats 8000000 in
theorem body_any {w : World} {B n c : Nat} {A : Option Addr} {l : List Cm} (h : CsOk w B A n c l) (e g m0 m1 m2 : Int) (h0 : VaOk l m0 3) (h1 : VaOk l m1 4) (h2 : VaOk l m2 5) :
    Calls Try.prog 135 #[.agg #[.int .i64 m0, .int .i64 m1, .int .i64 m2], .agg #[.int .i64 e, .int .i64 g, .slice A n c]] w (BoP w (bodyF m0 m1 m2 l)) := by
  obtain ⟨W0, hW0⟩ : ∃ W0, W0 = ((w.alloc (.cells #[.int .i64 m0, .int .i64 m1, .int .i64 m2] 24)).alloc (.cells #[.int .i64 e, .int .i64 g, .slice A n c] 147)).alloc (.cells #[.int .i64 0, .int .i64 0, .int .i64 0, .int .i64 0, .int .i64 0, .int .i64 0, .int .i64 0, .int .i64 0, .int .i64 0, .int .i64 0, .slice none 0 0, .bool false, .int .i64 0] 124) := ⟨_, rfl⟩
  obtain ⟨a0, ha0⟩ : ∃ a, a = w.heap.size := ⟨_, rfl⟩
  have hbW : Below w.heap.size w W0 := by rw [hW0]; exact (((Below.refl _ _).alloc (Nat.le_refl _) _).alloc (by simp) _).alloc (by simp; omega) _
  have b24 : Bk W0 a0 24 #[.int .i64 m0, .int .i64 m1, .int .i64 m2] := by rw [hW0, ha0]; exact ((Bk.new _ _ _).alloc _).alloc _
  have b147 : Bk W0 (a0 + 1) 147 #[.int .i64 e, .int .i64 g, .slice A n c] := by rw [hW0, ha0]; exact (Bk.twoB _ _ _ _).alloc _
  have b124 : Bk W0 (a0 + 2) 124 BoZ := by
    rw [hW0, ha0]
    have hq := Bk.new ((w.alloc (.cells #[.int .i64 m0, .int .i64 m1, .int .i64 m2] 24)).alloc (.cells #[.int .i64 e, .int .i64 g, .slice A n c] 147)) 124 BoZ
    simpa [BoZ] using hq
  have hsz : W0.heap.size = a0 + 3 := by rw [hW0, ha0]; simp
  have hB := h.lo
  have HS1 : Hid (∀ wz, Below W0.heap.size W0 wz → wz.cell? ⟨a0, 0, none⟩ = some (.int .i64 m0) ∧ wz.cell? ⟨a0, 1, none⟩ = some (.int .i64 m1) ∧ wz.cell? ⟨a0, 2, none⟩ = some (.int .i64 m2) ∧ wz.cell? ⟨a0 + 1, 0, none⟩ = some (.int .i64 e) ∧ wz.cell? ⟨a0 + 1, 1, none⟩ = some (.int .i64 g) ∧ wz.cell? ⟨a0 + 1, 2, none⟩ = some (.slice A n c)) := Lib.hid fun wz hz => by
    have k1 := b24.below hz b24.lt
    have k2 := b147.below hz b147.lt
    exact ⟨k1.cell 0, k1.cell 1, k1.cell 2, k2.cell 0, k2.cell 1, k2.cell 2⟩
  have HVA : Hid (∀ wz k, Below W0.heap.size W0 wz → Calls Try.prog 151 #[.agg #[.int .i64 e, .int .i64 g, .slice A n c], .int .i64 k] wz fun r w' => r = .returned (vaV (cmAt l k)) ∧ Below wz.heap.size wz w') := Lib.hid fun wz k hz => bvals_any ((h.below (hbW.mono hB)).below (hz.mono (Nat.le_trans hB hbW.size))) e g k
  obtain ⟨PV, hPV⟩ : ∃ z, z = vaV (cmAt l m0) := ⟨_, rfl⟩
  obtain ⟨SV, hSV⟩ : ∃ z, z = vaV (cmAt l m2) := ⟨_, rfl⟩
  obtain ⟨VV, hVV⟩ : ∃ z, z = vaV (cmAt l m1) := ⟨_, rfl⟩
  have HCP : Hid (∀ wz, Below W0.heap.size W0 wz → Calls Try.prog 151 #[.agg #[.int .i64 e, .int .i64 g, .slice A n c], .int .i64 m0] wz fun r w' => r = .returned PV ∧ Below wz.heap.size wz w') := Lib.hid fun wz hz => by rw [hPV]; exact HVA.out wz m0 hz
  have HCS : Hid (∀ wz, Below W0.heap.size W0 wz → Calls Try.prog 151 #[.agg #[.int .i64 e, .int .i64 g, .slice A n c], .int .i64 m2] wz fun r w' => r = .returned SV ∧ Below wz.heap.size wz w') := Lib.hid fun wz hz => by rw [hSV]; exact HVA.out wz m2 hz
  have HCV : Hid (∀ wz, Below W0.heap.size W0 wz → Calls Try.prog 151 #[.agg #[.int .i64 e, .int .i64 g, .slice A n c], .int .i64 m1] wz fun r w' => r = .returned VV ∧ Below wz.heap.size wz w') := Lib.hid fun wz hz => by rw [hVV]; exact HVA.out wz m1 hz
  have HEV := Lib.hid (And.intro hPV (And.intro hSV hVV))
  have HBW := Lib.hid hbW
  have H24 : Hid (∀ wz, Below W0.heap.size W0 wz → Bk wz (a0 + 2) 124 BoZ) := Lib.hid fun wz hz => b124.below hz b124.lt
  have HW0 := Lib.hid (And.intro hW0 (And.intro ha0 hsz))
  have HH := Lib.hid h
  have HVO := Lib.hid (And.intro h0 (And.intro h1 h2))
  clear h h0 h1 h2 hbW b24 b147 b124 hPV hSV hVV HVA hW0 ha0 hsz
  go_enter Try.func135, Try.ntmps135
  go_upto_region 1 with fail
  rw [← HW0.out.1, ← HW0.out.2.1]
  have s1 := HS1.out W0.drew (Below.refl _ _).drew
  refine wp_region_noPanic ?_
  refine wp_region_H (S := fun wz => wz.cell? ⟨a0, 0, none⟩ = some (.int .i64 m0) ∧ wz.cell? ⟨a0, 1, none⟩ = some (.int .i64 m1) ∧ wz.cell? ⟨a0, 2, none⟩ = some (.int .i64 m2) ∧ wz.cell? ⟨a0 + 1, 0, none⟩ = some (.int .i64 e) ∧ wz.cell? ⟨a0 + 1, 1, none⟩ = some (.int .i64 g) ∧ wz.cell? ⟨a0 + 1, 2, none⟩ = some (.slice A n c)) (by kernel_rfl) ?_
  refine wpAnyH_val (i := 0) (v := .agg #[.int .i64 e, .int .i64 g, .slice A n c]) (d := some 14) rfl rfl (by kernel_rfl) (by kernel_rfl) (by kernel_rfl) (fun _ _ _ h => h) (Or.inl ⟨by rfl, fun w hS => by (obtain ⟨h0, h1, h2, h3, h4, h5⟩ := hS; go_simp)⟩) s1 ?_
  (try simp only [Act.put, List.setIfInBounds_toArray, List.set_cons_zero, List.set_cons_succ])
  refine wpAnyH_val (i := 1) (v := .pointer (some ⟨a0, 0, none⟩)) (d := some 15) rfl rfl (by kernel_rfl) (by kernel_rfl) (by kernel_rfl) (fun _ _ _ h => h) (Or.inl ⟨by rfl, fun w hS => by (obtain ⟨h0, h1, h2, h3, h4, h5⟩ := hS; go_simp)⟩) s1 ?_
  (try simp only [Act.put, List.setIfInBounds_toArray, List.set_cons_zero, List.set_cons_succ])
  refine wpAnyH_val (i := 2) (v := .int .i64 m0) (d := some 16) rfl rfl (by kernel_rfl) (by kernel_rfl) (by kernel_rfl) (fun _ _ _ h => h) (Or.inl ⟨by rfl, fun w hS => by (obtain ⟨h0, h1, h2, h3, h4, h5⟩ := hS; go_simp)⟩) s1 ?_
  (try simp only [Act.put, List.setIfInBounds_toArray, List.set_cons_zero, List.set_cons_succ])
  refine wpAnyH_val (i := 4) (v := .agg #[.int .i64 e, .int .i64 g, .slice A n c]) (d := some 18) rfl rfl (by kernel_rfl) (by kernel_rfl) (by kernel_rfl) (fun _ _ _ h => h) (Or.inl ⟨by rfl, fun w hS => by (obtain ⟨h0, h1, h2, h3, h4, h5⟩ := hS; go_simp)⟩) s1 ?_
  (try simp only [Act.put, List.setIfInBounds_toArray, List.set_cons_zero, List.set_cons_succ])
  refine wpAnyH_val (i := 5) (v := .pointer (some ⟨a0, 2, none⟩)) (d := some 19) rfl rfl (by kernel_rfl) (by kernel_rfl) (by kernel_rfl) (fun _ _ _ h => h) (Or.inl ⟨by rfl, fun w hS => by (obtain ⟨h0, h1, h2, h3, h4, h5⟩ := hS; go_simp)⟩) s1 ?_
  (try simp only [Act.put, List.setIfInBounds_toArray, List.set_cons_zero, List.set_cons_succ])
  refine wpAnyH_val (i := 6) (v := .int .i64 m2) (d := some 20) rfl rfl (by kernel_rfl) (by kernel_rfl) (by kernel_rfl) (fun _ _ _ h => h) (Or.inl ⟨by rfl, fun w hS => by (obtain ⟨h0, h1, h2, h3, h4, h5⟩ := hS; go_simp)⟩) s1 ?_
  (try simp only [Act.put, List.setIfInBounds_toArray, List.set_cons_zero, List.set_cons_succ])
  refine wpAnyH_oneW (i := 3) rfl (by kernel_rfl) (by rfl) ?_
  go_simp
  go_at_call 151
  (with_reducible refine (HCP.out _ ?hb).mono ?_)
  case hb => exact (Below.refl _ _).drew
  rintro e w6 ⟨rfl, hb6⟩
  have HB6 : Hid (Below W0.heap.size W0 w6) := Lib.hid (((Below.refl _ _).drew).trans hb6)
  refine And.intro (HS1.out _ HB6.out) ?_
  (try simp only [Act.put, List.setIfInBounds_toArray, List.set_cons_zero, List.set_cons_succ])
  refine wpAnyH_oneW (i := 7) rfl (by kernel_rfl) (by rfl) ?_
  go_simp
  go_at_call 151
  (with_reducible refine (HCS.out _ HB6.out).mono ?_)
  rintro e w7 ⟨rfl, hb7⟩
  have HB7 : Hid (Below W0.heap.size W0 w7) := Lib.hid (HB6.out.trans (hb7.mono HB6.out.size))
  refine And.intro (HS1.out _ HB7.out) ?_
  (try simp only [Act.put, List.setIfInBounds_toArray, List.set_cons_zero, List.set_cons_succ])
  refine wpAnyH_val (i := 8) (v := PV) (d := some 6) rfl rfl (by kernel_rfl) (by kernel_rfl) (by kernel_rfl) (fun _ _ _ h => h) (Or.inl ⟨by rfl, fun w hS => by (obtain ⟨h0, h1, h2, h3, h4, h5⟩ := hS; go_simp)⟩) (HS1.out _ HB7.out) ?_
  (try simp only [Act.put, List.setIfInBounds_toArray, List.set_cons_zero, List.set_cons_succ])
  refine wpAnyH_val (i := 9) (v := SV) (d := some 7) rfl rfl (by kernel_rfl) (by kernel_rfl) (by kernel_rfl) (fun _ _ _ h => h) (Or.inl ⟨by rfl, fun w hS => by (obtain ⟨h0, h1, h2, h3, h4, h5⟩ := hS; go_simp)⟩) (HS1.out _ HB7.out) ?_
  (try simp only [Act.put, List.setIfInBounds_toArray, List.set_cons_zero, List.set_cons_succ])
  refine wpAnyH_done (by kernel_rfl) ?_ _
  refine NoPanic.normal ?_
  clear s1 HCP HCS hb6 hb7 HB6
  have hnil := fun wx => Lib.run_eql_slice_nil (P := Try.prog) wx 30 3 none 0 0 0 0 Try.underlying30
  cases hp : cmAt l m0 with
  | none =>
    have hPN : PV = .slice none 0 0 := by rw [HEV.out.1, hp]; rfl
    have hr : bodyF m0 m1 m2 l = none := by unfold bodyF; rw [hp]
    subst hPN
    have HR := Lib.hid hr
    clear hr hp HEV HCV HS1
    have kz := H24.out w7 HB7.out
    have q0 : w7.cell? ⟨a0 + 2, 0, none⟩ = some (.int .i64 0) := kz.cell 0
    have f0 : w7.frozen? ⟨a0 + 2, 0, none⟩ = false := kz.frozen 0
    have q1 : w7.cell? ⟨a0 + 2, 1, none⟩ = some (.int .i64 0) := kz.cell 1
    have f1 : w7.frozen? ⟨a0 + 2, 1, none⟩ = false := kz.frozen 1
    have q2 : w7.cell? ⟨a0 + 2, 2, none⟩ = some (.int .i64 0) := kz.cell 2
    have f2 : w7.frozen? ⟨a0 + 2, 2, none⟩ = false := kz.frozen 2
    have q3 : w7.cell? ⟨a0 + 2, 3, none⟩ = some (.int .i64 0) := kz.cell 3
    have f3 : w7.frozen? ⟨a0 + 2, 3, none⟩ = false := kz.frozen 3
    have q4 : w7.cell? ⟨a0 + 2, 4, none⟩ = some (.int .i64 0) := kz.cell 4
    have f4 : w7.frozen? ⟨a0 + 2, 4, none⟩ = false := kz.frozen 4
    have q5 : w7.cell? ⟨a0 + 2, 5, none⟩ = some (.int .i64 0) := kz.cell 5
    have f5 : w7.frozen? ⟨a0 + 2, 5, none⟩ = false := kz.frozen 5
    have q6 : w7.cell? ⟨a0 + 2, 6, none⟩ = some (.int .i64 0) := kz.cell 6
    have f6 : w7.frozen? ⟨a0 + 2, 6, none⟩ = false := kz.frozen 6
    have q7 : w7.cell? ⟨a0 + 2, 7, none⟩ = some (.int .i64 0) := kz.cell 7
    have f7 : w7.frozen? ⟨a0 + 2, 7, none⟩ = false := kz.frozen 7
    have q8 : w7.cell? ⟨a0 + 2, 8, none⟩ = some (.int .i64 0) := kz.cell 8
    have f8 : w7.frozen? ⟨a0 + 2, 8, none⟩ = false := kz.frozen 8
    have q9 : w7.cell? ⟨a0 + 2, 9, none⟩ = some (.int .i64 0) := kz.cell 9
    have f9 : w7.frozen? ⟨a0 + 2, 9, none⟩ = false := kz.frozen 9
    have q10 : w7.cell? ⟨a0 + 2, 10, none⟩ = some (.slice none 0 0) := kz.cell 10
    have f10 : w7.frozen? ⟨a0 + 2, 10, none⟩ = false := kz.frozen 10
    have q11 : w7.cell? ⟨a0 + 2, 11, none⟩ = some (.bool false) := kz.cell 11
    have f11 : w7.frozen? ⟨a0 + 2, 11, none⟩ = false := kz.frozen 11
    have q12 : w7.cell? ⟨a0 + 2, 12, none⟩ = some (.int .i64 0) := kz.cell 12
    have f12 : w7.frozen? ⟨a0 + 2, 12, none⟩ = false := kz.frozen 12
    clear kz
    go_wp2_with fail
    (try simp only [Exit.inBlock, Exit.then])
    refine bodyPost_ret (v := .tuple #[.agg BoZ, .bool false]) ?_ rfl ?_
    · rw [results_cell_tmp rfl]
      unfold BoZ
      go_simp
    · rw [HR.out]
      refine ⟨HBW.out.trans ?_, rfl⟩
      have hlo : w.heap.size ≤ a0 + 1 + 1 := by have := HW0.out.2.1; omega
      have hbx := HB7.out.mono HBW.out.size
      clear HB7 HBW
      (repeat' first | with_reducible exact hbx | with_reducible refine Below.setCell ?_ hlo _)
  | some pm =>
    obtain ⟨bp, op, hpA, hpB, hpn, hpc, hpc2, hpat⟩ := (HH.out).atv hp (HVO.out.1.len pm hp) (by omega)
    have hPN : PV = .slice (some ⟨bp, op, none⟩) 3 pm.c := by rw [HEV.out.1, hp]; show Value.slice pm.A pm.n pm.c = _; rw [hpA, hpn]
    subst hPN
    have hnp := fun wx => Lib.run_eql_slice_nil (P := Try.prog) wx 30 3 (some ⟨bp, op, none⟩) 3 pm.c 0 0 Try.underlying30
    rw [hpn] at hpc
    obtain ⟨pc, hpce⟩ : ∃ z, z = pm.c := ⟨_, rfl⟩
    rw [← hpce] at hnp hpc hpc2 ⊢
    cases hs : cmAt l m2 with
    | none =>
      have hSN : SV = .slice none 0 0 := by rw [HEV.out.2.1, hs]; rfl
      have hr : bodyF m0 m1 m2 l = none := by unfold bodyF; rw [hp, hs]
      subst hSN
      have HR := Lib.hid hr
      clear hr hp hs HEV HCV HS1 hpat hpA hpB hpn hpce
      have kz := H24.out w7 HB7.out
      have q0 : w7.cell? ⟨a0 + 2, 0, none⟩ = some (.int .i64 0) := kz.cell 0
      have f0 : w7.frozen? ⟨a0 + 2, 0, none⟩ = false := kz.frozen 0
      have q1 : w7.cell? ⟨a0 + 2, 1, none⟩ = some (.int .i64 0) := kz.cell 1
      have f1 : w7.frozen? ⟨a0 + 2, 1, none⟩ = false := kz.frozen 1
      have q2 : w7.cell? ⟨a0 + 2, 2, none⟩ = some (.int .i64 0) := kz.cell 2
      have f2 : w7.frozen? ⟨a0 + 2, 2, none⟩ = false := kz.frozen 2
      have q3 : w7.cell? ⟨a0 + 2, 3, none⟩ = some (.int .i64 0) := kz.cell 3
      have f3 : w7.frozen? ⟨a0 + 2, 3, none⟩ = false := kz.frozen 3
      have q4 : w7.cell? ⟨a0 + 2, 4, none⟩ = some (.int .i64 0) := kz.cell 4
      have f4 : w7.frozen? ⟨a0 + 2, 4, none⟩ = false := kz.frozen 4
      have q5 : w7.cell? ⟨a0 + 2, 5, none⟩ = some (.int .i64 0) := kz.cell 5
      have f5 : w7.frozen? ⟨a0 + 2, 5, none⟩ = false := kz.frozen 5
      have q6 : w7.cell? ⟨a0 + 2, 6, none⟩ = some (.int .i64 0) := kz.cell 6
      have f6 : w7.frozen? ⟨a0 + 2, 6, none⟩ = false := kz.frozen 6
      have q7 : w7.cell? ⟨a0 + 2, 7, none⟩ = some (.int .i64 0) := kz.cell 7
      have f7 : w7.frozen? ⟨a0 + 2, 7, none⟩ = false := kz.frozen 7
      have q8 : w7.cell? ⟨a0 + 2, 8, none⟩ = some (.int .i64 0) := kz.cell 8
      have f8 : w7.frozen? ⟨a0 + 2, 8, none⟩ = false := kz.frozen 8
      have q9 : w7.cell? ⟨a0 + 2, 9, none⟩ = some (.int .i64 0) := kz.cell 9
      have f9 : w7.frozen? ⟨a0 + 2, 9, none⟩ = false := kz.frozen 9
      have q10 : w7.cell? ⟨a0 + 2, 10, none⟩ = some (.slice none 0 0) := kz.cell 10
      have f10 : w7.frozen? ⟨a0 + 2, 10, none⟩ = false := kz.frozen 10
      have q11 : w7.cell? ⟨a0 + 2, 11, none⟩ = some (.bool false) := kz.cell 11
      have f11 : w7.frozen? ⟨a0 + 2, 11, none⟩ = false := kz.frozen 11
      have q12 : w7.cell? ⟨a0 + 2, 12, none⟩ = some (.int .i64 0) := kz.cell 12
      have f12 : w7.frozen? ⟨a0 + 2, 12, none⟩ = false := kz.frozen 12
      clear kz
      go_wp2_with fail
      (try simp only [Exit.inBlock, Exit.then])
      refine bodyPost_ret (v := .tuple #[.agg BoZ, .bool false]) ?_ rfl ?_
      · rw [results_cell_tmp rfl]
        unfold BoZ
        go_simp
      · rw [HR.out]
        refine ⟨HBW.out.trans ?_, rfl⟩
        have hlo : w.heap.size ≤ a0 + 1 + 1 := by have := HW0.out.2.1; omega
        have hbx := HB7.out.mono HBW.out.size
        clear HB7 HBW
        (repeat' first | with_reducible exact hbx | with_reducible refine Below.setCell ?_ hlo _)
    | some sm =>
      obtain ⟨bs, os, hsA, hsB, hsn, hsc, hsc2, hsat⟩ := (HH.out).atv hs (HVO.out.2.2.len sm hs) (by omega)
      have hSN : SV = .slice (some ⟨bs, os, none⟩) 5 sm.c := by rw [HEV.out.2.1, hs]; show Value.slice sm.A sm.n sm.c = _; rw [hsA, hsn]
      subst hSN
      have hns := fun wx => Lib.run_eql_slice_nil (P := Try.prog) wx 30 3 (some ⟨bs, os, none⟩) 5 sm.c 0 0 Try.underlying30
      rw [hsn] at hsc
      obtain ⟨sc, hsce⟩ : ∃ z, z = sm.c := ⟨_, rfl⟩
      rw [← hsce] at hns hsc hsc2 ⊢
      obtain ⟨p0, hp0⟩ : ∃ z, z = atI pm.vals 0 := ⟨_, rfl⟩
      obtain ⟨p1, hp1⟩ : ∃ z, z = atI pm.vals 1 := ⟨_, rfl⟩
      obtain ⟨p2, hp2⟩ : ∃ z, z = atI pm.vals 2 := ⟨_, rfl⟩
      obtain ⟨s0, hs0⟩ : ∃ z, z = atI sm.vals 0 := ⟨_, rfl⟩
      obtain ⟨s1, hs1⟩ : ∃ z, z = atI sm.vals 1 := ⟨_, rfl⟩
      obtain ⟨s2, hs2⟩ : ∃ z, z = atI sm.vals 2 := ⟨_, rfl⟩
      obtain ⟨s3, hs3⟩ : ∃ z, z = atI sm.vals 3 := ⟨_, rfl⟩
      obtain ⟨s4, hs4⟩ : ∃ z, z = atI sm.vals 4 := ⟨_, rfl⟩
      have HS2 : Hid (∀ wz, Below W0.heap.size W0 wz → wz.cell? ⟨bp, op, none⟩ = some (.int .i64 p0) ∧ wz.cell? ⟨bp, op + 1, none⟩ = some (.int .i64 p1) ∧ wz.cell? ⟨bp, op + 2, none⟩ = some (.int .i64 p2) ∧ wz.cell? ⟨bs, os, none⟩ = some (.int .i64 s0) ∧ wz.cell? ⟨bs, os + 1, none⟩ = some (.int .i64 s1) ∧ wz.cell? ⟨bs, os + 2, none⟩ = some (.int .i64 s2) ∧ wz.cell? ⟨bs, os + 3, none⟩ = some (.int .i64 s3) ∧ wz.cell? ⟨bs, os + 4, none⟩ = some (.int .i64 s4)) := Lib.hid fun wz hz => by
        have hbz : Below w.heap.size w wz := HBW.out.trans (hz.mono HBW.out.size)
        have k1 : ∀ j, j < 3 → wz.cell? ⟨bp, op + j, none⟩ = some (.int .i64 (atI pm.vals j)) := fun j hj => (World.cell?_of_block (w := w) (hbz.block bp (by omega))).trans (hpat j hj)
        have k2 : ∀ j, j < 5 → wz.cell? ⟨bs, os + j, none⟩ = some (.int .i64 (atI sm.vals j)) := fun j hj => (World.cell?_of_block (w := w) (hbz.block bs (by omega))).trans (hsat j hj)
        rw [hp0, hp1, hp2, hs0, hs1, hs2, hs3, hs4]
        exact ⟨k1 0 (by omega), k1 1 (by omega), k1 2 (by omega), k2 0 (by omega), k2 1 (by omega), k2 2 (by omega), k2 3 (by omega), k2 4 (by omega)⟩
      have HPS := Lib.hid (And.intro hp (And.intro hs (And.intro hpce hsce)))
      have HLP := Lib.hid (And.intro hp0 (And.intro hp1 hp2))
      have HLS := Lib.hid (And.intro hs0 (And.intro hs1 (And.intro hs2 (And.intro hs3 hs4))))
      clear hpat hsat hpA hsA hpB hsB hpn hsn hpce hsce hp hs hp0 hp1 hp2 hs0 hs1 hs2 hs3 hs4
      obtain ⟨wd, hwd⟩ : ∃ z, z = wiF s0 4096 1048576 := ⟨_, rfl⟩
      obtain ⟨hd, hhd⟩ : ∃ z, z = wiF s1 4096 1048576 := ⟨_, rfl⟩
      have hwd1 := wiF_in (n := s0) (lo := 4096) (hi := 1048576) (by decide)
      have hhd1 := wiF_in (n := s1) (lo := 4096) (hi := 1048576) (by decide)
      rw [← hwd] at hwd1
      rw [← hhd] at hhd1
      have HWD : Hid (∀ wz, Calls Try.prog 152 #[.int .i64 s0, .int .i64 4096, .int .i64 1048576] wz fun e w' => e = .returned (.int .i64 wd) ∧ wz = w') := Lib.hid fun wz => by rw [hwd]; exact within_any _ _ _ (by decide) wz
      have HHD : Hid (∀ wz, Calls Try.prog 152 #[.int .i64 s1, .int .i64 4096, .int .i64 1048576] wz fun e w' => e = .returned (.int .i64 hd) ∧ wz = w') := Lib.hid fun wz => by rw [hhd]; exact within_any _ _ _ (by decide) wz
      have HWH := Lib.hid (And.intro hwd hhd)
      clear hwd hhd
      go_upto_region 4 with fail
      have sZ := HS2.out w7.drew HB7.out.drew
      refine wp_region_noPanic ?_
      refine wp_region_H (S := fun wz => wz.cell? ⟨bp, op, none⟩ = some (.int .i64 p0) ∧ wz.cell? ⟨bp, op + 1, none⟩ = some (.int .i64 p1) ∧ wz.cell? ⟨bp, op + 2, none⟩ = some (.int .i64 p2) ∧ wz.cell? ⟨bs, os, none⟩ = some (.int .i64 s0) ∧ wz.cell? ⟨bs, os + 1, none⟩ = some (.int .i64 s1) ∧ wz.cell? ⟨bs, os + 2, none⟩ = some (.int .i64 s2) ∧ wz.cell? ⟨bs, os + 3, none⟩ = some (.int .i64 s3) ∧ wz.cell? ⟨bs, os + 4, none⟩ = some (.int .i64 s4)) (by kernel_rfl) ?_
      refine wpAnyH_val (i := 0) (v := .slice (some ⟨bs, os, none⟩) 5 sc) (d := some 29) rfl rfl (by kernel_rfl) (by kernel_rfl) (by kernel_rfl) (fun _ _ _ h => h) (Or.inl ⟨by rfl, fun w hS => by (obtain ⟨h0, h1, h2, h3, h4, h5, h6, h7⟩ := hS; go_simp)⟩) sZ ?_
      (try simp only [Act.put, List.setIfInBounds_toArray, List.set_cons_zero, List.set_cons_succ])
      refine wpAnyH_val (i := 1) (v := .pointer (some ⟨bs, os, none⟩)) (d := some 30) rfl rfl (by kernel_rfl) (by kernel_rfl) (by kernel_rfl) (fun _ _ _ h => h) (Or.inl ⟨by rfl, fun w hS => by (obtain ⟨h0, h1, h2, h3, h4, h5, h6, h7⟩ := hS; go_simp)⟩) sZ ?_
      (try simp only [Act.put, List.setIfInBounds_toArray, List.set_cons_zero, List.set_cons_succ])
      refine wpAnyH_val (i := 2) (v := .int .i64 s0) (d := some 31) rfl rfl (by kernel_rfl) (by kernel_rfl) (by kernel_rfl) (fun _ _ _ h => h) (Or.inl ⟨by rfl, fun w hS => by (obtain ⟨h0, h1, h2, h3, h4, h5, h6, h7⟩ := hS; go_simp)⟩) sZ ?_
      (try simp only [Act.put, List.setIfInBounds_toArray, List.set_cons_zero, List.set_cons_succ])
      refine wpAnyH_val (i := 4) (v := .slice (some ⟨bs, os, none⟩) 5 sc) (d := some 33) rfl rfl (by kernel_rfl) (by kernel_rfl) (by kernel_rfl) (fun _ _ _ h => h) (Or.inl ⟨by rfl, fun w hS => by (obtain ⟨h0, h1, h2, h3, h4, h5, h6, h7⟩ := hS; go_simp)⟩) sZ ?_
      (try simp only [Act.put, List.setIfInBounds_toArray, List.set_cons_zero, List.set_cons_succ])
      refine wpAnyH_val (i := 5) (v := .pointer (some ⟨bs, os + 1, none⟩)) (d := some 34) rfl rfl (by kernel_rfl) (by kernel_rfl) (by kernel_rfl) (fun _ _ _ h => h) (Or.inl ⟨by rfl, fun w hS => by (obtain ⟨h0, h1, h2, h3, h4, h5, h6, h7⟩ := hS; go_simp)⟩) sZ ?_
      (try simp only [Act.put, List.setIfInBounds_toArray, List.set_cons_zero, List.set_cons_succ])
      refine wpAnyH_val (i := 6) (v := .int .i64 s1) (d := some 35) rfl rfl (by kernel_rfl) (by kernel_rfl) (by kernel_rfl) (fun _ _ _ h => h) (Or.inl ⟨by rfl, fun w hS => by (obtain ⟨h0, h1, h2, h3, h4, h5, h6, h7⟩ := hS; go_simp)⟩) sZ ?_
      (try simp only [Act.put, List.setIfInBounds_toArray, List.set_cons_zero, List.set_cons_succ])
      refine wpAnyH_oneW (i := 3) rfl (by kernel_rfl) (by rfl) ?_
      go_simp
      go_at_call 152
      (with_reducible refine (HWD.out _).mono ?_)
      rintro e w6 ⟨rfl, rfl⟩
      refine And.intro sZ ?_
      (try simp only [Act.put, List.setIfInBounds_toArray, List.set_cons_zero, List.set_cons_succ])
      refine wpAnyH_oneW (i := 7) rfl (by kernel_rfl) (by rfl) ?_
      go_simp
      go_at_call 152
      (with_reducible refine (HHD.out _).mono ?_)
      rintro e w6 ⟨rfl, rfl⟩
      refine And.intro sZ ?_
      (try simp only [Act.put, List.setIfInBounds_toArray, List.set_cons_zero, List.set_cons_succ])
      refine wpAnyH_val (i := 8) (v := .int .i64 wd) (d := some 8) rfl rfl (by kernel_rfl) (by kernel_rfl) (by kernel_rfl) (fun _ _ _ h => h) (Or.inl ⟨by rfl, fun w hS => by (obtain ⟨h0, h1, h2, h3, h4, h5, h6, h7⟩ := hS; go_simp)⟩) sZ ?_
      (try simp only [Act.put, List.setIfInBounds_toArray, List.set_cons_zero, List.set_cons_succ])
      refine wpAnyH_val (i := 9) (v := .int .i64 hd) (d := some 9) rfl rfl (by kernel_rfl) (by kernel_rfl) (by kernel_rfl) (fun _ _ _ h => h) (Or.inl ⟨by rfl, fun w hS => by (obtain ⟨h0, h1, h2, h3, h4, h5, h6, h7⟩ := hS; go_simp)⟩) sZ ?_
      (try simp only [Act.put, List.setIfInBounds_toArray, List.set_cons_zero, List.set_cons_succ])
      refine wpAnyH_done (by kernel_rfl) ?_ _
      refine NoPanic.normal ?_
      obtain ⟨w8, hw8⟩ : ∃ z, z = w7.drew := ⟨_, rfl⟩
      have HB8 : Hid (Below W0.heap.size W0 w8) := Lib.hid (by rw [hw8]; exact HB7.out.drew)
      rw [← hw8]
      clear hw8 sZ HWD HHD HB7
      obtain ⟨px, hpx⟩ : ∃ z, z = wiF p0 (-58982400) 58982400 := ⟨_, rfl⟩
      obtain ⟨py, hpy⟩ : ∃ z, z = wiF p1 (-58982400) 58982400 := ⟨_, rfl⟩
      obtain ⟨bou, hbou⟩ : ∃ z, z = wiF s3 0 65536 := ⟨_, rfl⟩
      obtain ⟨rub, hrub⟩ : ∃ z, z = wiF s4 0 65536 := ⟨_, rfl⟩
      have HVP : Hid (∀ wz : World, Calls Try.prog 199 #[.int .i64 p0, .int .i64 p1, .int .i64 58982400] wz fun e w' => e = .returned (.agg #[.int .i64 px, .int .i64 py]) ∧ Below wz.heap.size wz w') := Lib.hid fun wz => by rw [hpx, hpy]; exact vec_any _ _ _ (by decide) (by decide) wz
      have HBO : Hid (∀ wz, Calls Try.prog 152 #[.int .i64 s3, .int .i64 0, .int .i64 65536] wz fun e w' => e = .returned (.int .i64 bou) ∧ wz = w') := Lib.hid fun wz => by rw [hbou]; exact within_any _ _ _ (by decide) wz
      have HRU : Hid (∀ wz, Calls Try.prog 152 #[.int .i64 s4, .int .i64 0, .int .i64 65536] wz fun e w' => e = .returned (.int .i64 rub) ∧ wz = w') := Lib.hid fun wz => by rw [hrub]; exact within_any _ _ _ (by decide) wz
      have HPX := Lib.hid (And.intro hpx (And.intro hpy (And.intro hbou hrub)))
      clear hpx hpy hbou hrub
      go_upto_region 5 with fail
      go_cut [10] from 37 to 52 (fun s10 wx => ∃ hb : Nat, s10 = .pointer (some ⟨hb, 0, none⟩) ∧ Hid (W0.heap.size ≤ hb ∧ Below W0.heap.size W0 wx ∧ Bk wx hb 124 #[.int .i64 px, .int .i64 py, .int .i64 0, .int .i64 0, .int .i64 0, .int .i64 0, .int .i64 0, .int .i64 0, .int .i64 bou, .int .i64 rub, .slice none 0 0, .bool false, .int .i64 0]))
      case first =>
        have HB19 : Hid (Below W0.heap.size W0 w8.drew) := Lib.hid HB8.out.drew
        have sZ := HS2.out w8.drew HB19.out
        refine wp_region_noPanic ?_
        refine wp_region_H (S := fun wz => wz.cell? ⟨bp, op, none⟩ = some (.int .i64 p0) ∧ wz.cell? ⟨bp, op + 1, none⟩ = some (.int .i64 p1) ∧ wz.cell? ⟨bp, op + 2, none⟩ = some (.int .i64 p2) ∧ wz.cell? ⟨bs, os, none⟩ = some (.int .i64 s0) ∧ wz.cell? ⟨bs, os + 1, none⟩ = some (.int .i64 s1) ∧ wz.cell? ⟨bs, os + 2, none⟩ = some (.int .i64 s2) ∧ wz.cell? ⟨bs, os + 3, none⟩ = some (.int .i64 s3) ∧ wz.cell? ⟨bs, os + 4, none⟩ = some (.int .i64 s4)) (by kernel_rfl) ?_
        generalize w8.drew = v19 at *
        refine wpAnyH_val (i := 0) (v := .slice (some ⟨bp, op, none⟩) 3 pc) (d := some 37) rfl rfl (by kernel_rfl) (by kernel_rfl) (by kernel_rfl) (fun _ _ _ h => h) (Or.inl ⟨by rfl, fun w hS => by (obtain ⟨h0, h1, h2, h3, h4, h5, h6, h7⟩ := hS; go_simp)⟩) sZ ?_
        (try simp only [Act.put, List.setIfInBounds_toArray, List.set_cons_zero, List.set_cons_succ])
        refine wpAnyH_val (i := 1) (v := .pointer (some ⟨bp, op, none⟩)) (d := some 38) rfl rfl (by kernel_rfl) (by kernel_rfl) (by kernel_rfl) (fun _ _ _ h => h) (Or.inl ⟨by rfl, fun w hS => by (obtain ⟨h0, h1, h2, h3, h4, h5, h6, h7⟩ := hS; go_simp)⟩) sZ ?_
        (try simp only [Act.put, List.setIfInBounds_toArray, List.set_cons_zero, List.set_cons_succ])
        refine wpAnyH_val (i := 2) (v := .int .i64 p0) (d := some 39) rfl rfl (by kernel_rfl) (by kernel_rfl) (by kernel_rfl) (fun _ _ _ h => h) (Or.inl ⟨by rfl, fun w hS => by (obtain ⟨h0, h1, h2, h3, h4, h5, h6, h7⟩ := hS; go_simp)⟩) sZ ?_
        (try simp only [Act.put, List.setIfInBounds_toArray, List.set_cons_zero, List.set_cons_succ])
        refine wpAnyH_val (i := 3) (v := .slice (some ⟨bp, op, none⟩) 3 pc) (d := some 40) rfl rfl (by kernel_rfl) (by kernel_rfl) (by kernel_rfl) (fun _ _ _ h => h) (Or.inl ⟨by rfl, fun w hS => by (obtain ⟨h0, h1, h2, h3, h4, h5, h6, h7⟩ := hS; go_simp)⟩) sZ ?_
        (try simp only [Act.put, List.setIfInBounds_toArray, List.set_cons_zero, List.set_cons_succ])
        refine wpAnyH_val (i := 4) (v := .pointer (some ⟨bp, op + 1, none⟩)) (d := some 41) rfl rfl (by kernel_rfl) (by kernel_rfl) (by kernel_rfl) (fun _ _ _ h => h) (Or.inl ⟨by rfl, fun w hS => by (obtain ⟨h0, h1, h2, h3, h4, h5, h6, h7⟩ := hS; go_simp)⟩) sZ ?_
        (try simp only [Act.put, List.setIfInBounds_toArray, List.set_cons_zero, List.set_cons_succ])
        refine wpAnyH_val (i := 5) (v := .int .i64 p1) (d := some 42) rfl rfl (by kernel_rfl) (by kernel_rfl) (by kernel_rfl) (fun _ _ _ h => h) (Or.inl ⟨by rfl, fun w hS => by (obtain ⟨h0, h1, h2, h3, h4, h5, h6, h7⟩ := hS; go_simp)⟩) sZ ?_
        (try simp only [Act.put, List.setIfInBounds_toArray, List.set_cons_zero, List.set_cons_succ])
        refine wpAnyH_val (i := 7) (v := .slice (some ⟨bs, os, none⟩) 5 sc) (d := some 44) rfl rfl (by kernel_rfl) (by kernel_rfl) (by kernel_rfl) (fun _ _ _ h => h) (Or.inl ⟨by rfl, fun w hS => by (obtain ⟨h0, h1, h2, h3, h4, h5, h6, h7⟩ := hS; go_simp)⟩) sZ ?_
        (try simp only [Act.put, List.setIfInBounds_toArray, List.set_cons_zero, List.set_cons_succ])
        refine wpAnyH_val (i := 8) (v := .pointer (some ⟨bs, os + 3, none⟩)) (d := some 45) rfl rfl (by kernel_rfl) (by kernel_rfl) (by kernel_rfl) (fun _ _ _ h => h) (Or.inl ⟨by rfl, fun w hS => by (obtain ⟨h0, h1, h2, h3, h4, h5, h6, h7⟩ := hS; go_simp)⟩) sZ ?_
        (try simp only [Act.put, List.setIfInBounds_toArray, List.set_cons_zero, List.set_cons_succ])
        refine wpAnyH_val (i := 9) (v := .int .i64 s3) (d := some 46) rfl rfl (by kernel_rfl) (by kernel_rfl) (by kernel_rfl) (fun _ _ _ h => h) (Or.inl ⟨by rfl, fun w hS => by (obtain ⟨h0, h1, h2, h3, h4, h5, h6, h7⟩ := hS; go_simp)⟩) sZ ?_
        (try simp only [Act.put, List.setIfInBounds_toArray, List.set_cons_zero, List.set_cons_succ])
        refine wpAnyH_val (i := 11) (v := .slice (some ⟨bs, os, none⟩) 5 sc) (d := some 48) rfl rfl (by kernel_rfl) (by kernel_rfl) (by kernel_rfl) (fun _ _ _ h => h) (Or.inl ⟨by rfl, fun w hS => by (obtain ⟨h0, h1, h2, h3, h4, h5, h6, h7⟩ := hS; go_simp)⟩) sZ ?_
        (try simp only [Act.put, List.setIfInBounds_toArray, List.set_cons_zero, List.set_cons_succ])
        refine wpAnyH_val (i := 12) (v := .pointer (some ⟨bs, os + 4, none⟩)) (d := some 49) rfl rfl (by kernel_rfl) (by kernel_rfl) (by kernel_rfl) (fun _ _ _ h => h) (Or.inl ⟨by rfl, fun w hS => by (obtain ⟨h0, h1, h2, h3, h4, h5, h6, h7⟩ := hS; go_simp)⟩) sZ ?_
        (try simp only [Act.put, List.setIfInBounds_toArray, List.set_cons_zero, List.set_cons_succ])
        refine wpAnyH_val (i := 13) (v := .int .i64 s4) (d := some 50) rfl rfl (by kernel_rfl) (by kernel_rfl) (by kernel_rfl) (fun _ _ _ h => h) (Or.inl ⟨by rfl, fun w hS => by (obtain ⟨h0, h1, h2, h3, h4, h5, h6, h7⟩ := hS; go_simp)⟩) sZ ?_
        (try simp only [Act.put, List.setIfInBounds_toArray, List.set_cons_zero, List.set_cons_succ])
        refine wpAnyH_two (i := 6) (j := 16) rfl rfl (by kernel_rfl) (by rfl) (by rfl) ?_ ?_
        · go_simp
          go_at_call 199
          (with_reducible refine (HVP.out _).mono ?_)
          rintro e v20 ⟨rfl, hv20⟩
          have HB20 : Hid (Below W0.heap.size W0 v20) := Lib.hid (HB19.out.trans (hv20.mono HB19.out.size))
          clear hv20
          refine And.intro (HS2.out _ HB20.out) ?_
          (try simp only [Act.put, List.setIfInBounds_toArray, List.set_cons_zero, List.set_cons_succ])
          refine wpAnyH_two (i := 10) (j := 16) rfl rfl (by kernel_rfl) (by rfl) (by rfl) ?_ ?_
          · go_simp
            go_at_call 152
            (with_reducible refine (HBO.out _).mono ?_)
            rintro e v21 ⟨rfl, rfl⟩
            refine And.intro (HS2.out _ HB20.out) ?_
            (try simp only [Act.put, List.setIfInBounds_toArray, List.set_cons_zero, List.set_cons_succ])
            refine wpAnyH_two (i := 14) (j := 16) rfl rfl (by kernel_rfl) (by rfl) (by rfl) ?_ ?_
            · go_simp
              go_at_call 152
              (with_reducible refine (HRU.out _).mono ?_)
              rintro e v22 ⟨rfl, rfl⟩
              refine And.intro (HS2.out _ HB20.out) ?_
              (try simp only [Act.put, List.setIfInBounds_toArray, List.set_cons_zero, List.set_cons_succ])
              refine wpAnyH_val (i := 15) (v := .agg #[.int .i64 px, .int .i64 py, .int .i64 0, .int .i64 0, .int .i64 0, .int .i64 0, .int .i64 0, .int .i64 0, .int .i64 bou, .int .i64 rub, .slice none 0 0, .bool false, .int .i64 0]) (d := some 52) rfl rfl (by kernel_rfl) (by kernel_rfl) (by kernel_rfl) (fun _ _ _ h => h) (Or.inl ⟨by rfl, fun w hS => by (obtain ⟨h0, h1, h2, h3, h4, h5, h6, h7⟩ := hS; go_simp)⟩) (HS2.out _ HB20.out) ?_
              (try simp only [Act.put, List.setIfInBounds_toArray, List.set_cons_zero, List.set_cons_succ])
              refine wpAnyH_oneW (i := 16) rfl (by kernel_rfl) (by rfl) ?_
              go_simp
              obtain ⟨hb, hhb⟩ : ∃ hb, hb = v20.heap.size := ⟨_, rfl⟩
              obtain ⟨v23, hv23⟩ : ∃ v, v = v20.alloc (.cells #[.int .i64 0, .int .i64 0, .int .i64 0, .int .i64 0, .int .i64 0, .int .i64 0, .int .i64 0, .int .i64 0, .int .i64 0, .int .i64 0, .slice none 0 0, .bool false, .int .i64 0] 124) := ⟨_, rfl⟩
              have HB23 : Hid (Below W0.heap.size W0 v23) := Lib.hid (by rw [hv23]; exact HB20.out.alloc HB20.out.size _)
              have hkb : Bk v23 hb 124 #[.int .i64 0, .int .i64 0, .int .i64 0, .int .i64 0, .int .i64 0, .int .i64 0, .int .i64 0, .int .i64 0, .int .i64 0, .int .i64 0, .slice none 0 0, .bool false, .int .i64 0] := by rw [hv23, hhb]; exact Bk.new _ _ _
              have hlb : W0.heap.size ≤ hb := by rw [hhb]; exact HB20.out.size
              rw [← hv23, ← hhb]
              clear hv23 hhb
              refine And.intro (HS2.out _ HB23.out) ?_
              (try simp only [Act.put, List.setIfInBounds_toArray, List.set_cons_zero, List.set_cons_succ])
              have k0 : v23.cell? ⟨hb, 0, none⟩ = some (.int .i64 0) := hkb.cell 0
              have f0 : v23.frozen? ⟨hb, 0, none⟩ = false := hkb.frozen 0
              have k1 : v23.cell? ⟨hb, 1, none⟩ = some (.int .i64 0) := hkb.cell 1
              have f1 : v23.frozen? ⟨hb, 1, none⟩ = false := hkb.frozen 1
              have k2 : v23.cell? ⟨hb, 2, none⟩ = some (.int .i64 0) := hkb.cell 2
              have f2 : v23.frozen? ⟨hb, 2, none⟩ = false := hkb.frozen 2
              have k3 : v23.cell? ⟨hb, 3, none⟩ = some (.int .i64 0) := hkb.cell 3
              have f3 : v23.frozen? ⟨hb, 3, none⟩ = false := hkb.frozen 3
              have k4 : v23.cell? ⟨hb, 4, none⟩ = some (.int .i64 0) := hkb.cell 4
              have f4 : v23.frozen? ⟨hb, 4, none⟩ = false := hkb.frozen 4
              have k5 : v23.cell? ⟨hb, 5, none⟩ = some (.int .i64 0) := hkb.cell 5
              have f5 : v23.frozen? ⟨hb, 5, none⟩ = false := hkb.frozen 5
              have k6 : v23.cell? ⟨hb, 6, none⟩ = some (.int .i64 0) := hkb.cell 6
              have f6 : v23.frozen? ⟨hb, 6, none⟩ = false := hkb.frozen 6
              have k7 : v23.cell? ⟨hb, 7, none⟩ = some (.int .i64 0) := hkb.cell 7
              have f7 : v23.frozen? ⟨hb, 7, none⟩ = false := hkb.frozen 7
              have k8 : v23.cell? ⟨hb, 8, none⟩ = some (.int .i64 0) := hkb.cell 8
              have f8 : v23.frozen? ⟨hb, 8, none⟩ = false := hkb.frozen 8
              have k9 : v23.cell? ⟨hb, 9, none⟩ = some (.int .i64 0) := hkb.cell 9
              have f9 : v23.frozen? ⟨hb, 9, none⟩ = false := hkb.frozen 9
              have k10 : v23.cell? ⟨hb, 10, none⟩ = some (.slice none 0 0) := hkb.cell 10
              have f10 : v23.frozen? ⟨hb, 10, none⟩ = false := hkb.frozen 10
              have k11 : v23.cell? ⟨hb, 11, none⟩ = some (.bool false) := hkb.cell 11
              have f11 : v23.frozen? ⟨hb, 11, none⟩ = false := hkb.frozen 11
              have k12 : v23.cell? ⟨hb, 12, none⟩ = some (.int .i64 0) := hkb.cell 12
              have f12 : v23.frozen? ⟨hb, 12, none⟩ = false := hkb.frozen 12
              refine wpAnyH_oneW (i := 17) rfl (by kernel_rfl) (by rfl) ?_
              go_simp
              have HBL : Hid (Below W0.heap.size W0 (set13 v23 hb (.int .i64 px) (.int .i64 py) (.int .i64 0) (.int .i64 0) (.int .i64 0) (.int .i64 0) (.int .i64 0) (.int .i64 0) (.int .i64 bou) (.int .i64 rub) (.slice none 0 0) (.bool false) (.int .i64 0))) := Lib.hid (set13_below HB23.out hlb)
              refine And.intro (HS2.out _ HBL.out) ?_
              (try simp only [Act.put, List.setIfInBounds_toArray, List.set_cons_zero, List.set_cons_succ])
              refine wpAnyH_done (by kernel_rfl) ?_ _
              refine NoPanic.normal ?_
              have HKB : Hid (Bk (set13 v23 hb (.int .i64 px) (.int .i64 py) (.int .i64 0) (.int .i64 0) (.int .i64 0) (.int .i64 0) (.int .i64 0) (.int .i64 0) (.int .i64 bou) (.int .i64 rub) (.slice none 0 0) (.bool false) (.int .i64 0)) hb 124 #[.int .i64 px, .int .i64 py, .int .i64 0, .int .i64 0, .int .i64 0, .int .i64 0, .int .i64 0, .int .i64 0, .int .i64 bou, .int .i64 rub, .slice none 0 0, .bool false, .int .i64 0]) := Lib.hid (set13_bk hkb)
              go_wp2_with fail
              go_meet
              case rel => exact ⟨hb, rfl, Lib.hid ⟨hlb, HBL.out, HKB.out⟩⟩
            · go_simp
              obtain ⟨hb, hhb⟩ : ∃ hb, hb = v20.heap.size := ⟨_, rfl⟩
              obtain ⟨v22, hv22⟩ : ∃ v, v = v20.alloc (.cells #[.int .i64 0, .int .i64 0, .int .i64 0, .int .i64 0, .int .i64 0, .int .i64 0, .int .i64 0, .int .i64 0, .int .i64 0, .int .i64 0, .slice none 0 0, .bool false, .int .i64 0] 124) := ⟨_, rfl⟩
              have HB22 : Hid (Below W0.heap.size W0 v22) := Lib.hid (by rw [hv22]; exact HB20.out.alloc HB20.out.size _)
              have hkb : Bk v22 hb 124 #[.int .i64 0, .int .i64 0, .int .i64 0, .int .i64 0, .int .i64 0, .int .i64 0, .int .i64 0, .int .i64 0, .int .i64 0, .int .i64 0, .slice none 0 0, .bool false, .int .i64 0] := by rw [hv22, hhb]; exact Bk.new _ _ _
              have hlb : W0.heap.size ≤ hb := by rw [hhb]; exact HB20.out.size
              rw [← hv22, ← hhb]
              clear hv22 hhb
              refine And.intro (HS2.out _ HB22.out) ?_
              (try simp only [Act.put, List.setIfInBounds_toArray, List.set_cons_zero, List.set_cons_succ])
              refine wpAnyH_oneW (i := 14) rfl (by kernel_rfl) (by rfl) ?_
              go_simp
              go_at_call 152
              (with_reducible refine (HRU.out _).mono ?_)
              rintro e v23 ⟨rfl, rfl⟩
              refine And.intro (HS2.out _ HB22.out) ?_
              (try simp only [Act.put, List.setIfInBounds_toArray, List.set_cons_zero, List.set_cons_succ])
              refine wpAnyH_val (i := 15) (v := .agg #[.int .i64 px, .int .i64 py, .int .i64 0, .int .i64 0, .int .i64 0, .int .i64 0, .int .i64 0, .int .i64 0, .int .i64 bou, .int .i64 rub, .slice none 0 0, .bool false, .int .i64 0]) (d := some 52) rfl rfl (by kernel_rfl) (by kernel_rfl) (by kernel_rfl) (fun _ _ _ h => h) (Or.inl ⟨by rfl, fun w hS => by (obtain ⟨h0, h1, h2, h3, h4, h5, h6, h7⟩ := hS; go_simp)⟩) (HS2.out _ HB22.out) ?_
              (try simp only [Act.put, List.setIfInBounds_toArray, List.set_cons_zero, List.set_cons_succ])
              have k0 : v22.cell? ⟨hb, 0, none⟩ = some (.int .i64 0) := hkb.cell 0
              have f0 : v22.frozen? ⟨hb, 0, none⟩ = false := hkb.frozen 0
              have k1 : v22.cell? ⟨hb, 1, none⟩ = some (.int .i64 0) := hkb.cell 1
              have f1 : v22.frozen? ⟨hb, 1, none⟩ = false := hkb.frozen 1
              have k2 : v22.cell? ⟨hb, 2, none⟩ = some (.int .i64 0) := hkb.cell 2
              have f2 : v22.frozen? ⟨hb, 2, none⟩ = false := hkb.frozen 2
              have k3 : v22.cell? ⟨hb, 3, none⟩ = some (.int .i64 0) := hkb.cell 3
              have f3 : v22.frozen? ⟨hb, 3, none⟩ = false := hkb.frozen 3
              have k4 : v22.cell? ⟨hb, 4, none⟩ = some (.int .i64 0) := hkb.cell 4
              have f4 : v22.frozen? ⟨hb, 4, none⟩ = false := hkb.frozen 4
              have k5 : v22.cell? ⟨hb, 5, none⟩ = some (.int .i64 0) := hkb.cell 5
              have f5 : v22.frozen? ⟨hb, 5, none⟩ = false := hkb.frozen 5
              have k6 : v22.cell? ⟨hb, 6, none⟩ = some (.int .i64 0) := hkb.cell 6
              have f6 : v22.frozen? ⟨hb, 6, none⟩ = false := hkb.frozen 6
              have k7 : v22.cell? ⟨hb, 7, none⟩ = some (.int .i64 0) := hkb.cell 7
              have f7 : v22.frozen? ⟨hb, 7, none⟩ = false := hkb.frozen 7
              have k8 : v22.cell? ⟨hb, 8, none⟩ = some (.int .i64 0) := hkb.cell 8
              have f8 : v22.frozen? ⟨hb, 8, none⟩ = false := hkb.frozen 8
              have k9 : v22.cell? ⟨hb, 9, none⟩ = some (.int .i64 0) := hkb.cell 9
              have f9 : v22.frozen? ⟨hb, 9, none⟩ = false := hkb.frozen 9
              have k10 : v22.cell? ⟨hb, 10, none⟩ = some (.slice none 0 0) := hkb.cell 10
              have f10 : v22.frozen? ⟨hb, 10, none⟩ = false := hkb.frozen 10
              have k11 : v22.cell? ⟨hb, 11, none⟩ = some (.bool false) := hkb.cell 11
              have f11 : v22.frozen? ⟨hb, 11, none⟩ = false := hkb.frozen 11
              have k12 : v22.cell? ⟨hb, 12, none⟩ = some (.int .i64 0) := hkb.cell 12
              have f12 : v22.frozen? ⟨hb, 12, none⟩ = false := hkb.frozen 12
              refine wpAnyH_oneW (i := 17) rfl (by kernel_rfl) (by rfl) ?_
              go_simp
              have HBL : Hid (Below W0.heap.size W0 (set13 v22 hb (.int .i64 px) (.int .i64 py) (.int .i64 0) (.int .i64 0) (.int .i64 0) (.int .i64 0) (.int .i64 0) (.int .i64 0) (.int .i64 bou) (.int .i64 rub) (.slice none 0 0) (.bool false) (.int .i64 0))) := Lib.hid (set13_below HB22.out hlb)
              refine And.intro (HS2.out _ HBL.out) ?_
              (try simp only [Act.put, List.setIfInBounds_toArray, List.set_cons_zero, List.set_cons_succ])
              refine wpAnyH_done (by kernel_rfl) ?_ _
              refine NoPanic.normal ?_
              have HKB : Hid (Bk (set13 v22 hb (.int .i64 px) (.int .i64 py) (.int .i64 0) (.int .i64 0) (.int .i64 0) (.int .i64 0) (.int .i64 0) (.int .i64 0) (.int .i64 bou) (.int .i64 rub) (.slice none 0 0) (.bool false) (.int .i64 0)) hb 124 #[.int .i64 px, .int .i64 py, .int .i64 0, .int .i64 0, .int .i64 0, .int .i64 0, .int .i64 0, .int .i64 0, .int .i64 bou, .int .i64 rub, .slice none 0 0, .bool false, .int .i64 0]) := Lib.hid (set13_bk hkb)
              go_wp2_with fail
              go_meet
              case rel => exact ⟨hb, rfl, Lib.hid ⟨hlb, HBL.out, HKB.out⟩⟩
          · go_simp
            obtain ⟨hb, hhb⟩ : ∃ hb, hb = v20.heap.size := ⟨_, rfl⟩
            obtain ⟨v21, hv21⟩ : ∃ v, v = v20.alloc (.cells #[.int .i64 0, .int .i64 0, .int .i64 0, .int .i64 0, .int .i64 0, .int .i64 0, .int .i64 0, .int .i64 0, .int .i64 0, .int .i64 0, .slice none 0 0, .bool false, .int .i64 0] 124) := ⟨_, rfl⟩
            have HB21 : Hid (Below W0.heap.size W0 v21) := Lib.hid (by rw [hv21]; exact HB20.out.alloc HB20.out.size _)
            have hkb : Bk v21 hb 124 #[.int .i64 0, .int .i64 0, .int .i64 0, .int .i64 0, .int .i64 0, .int .i64 0, .int .i64 0, .int .i64 0, .int .i64 0, .int .i64 0, .slice none 0 0, .bool false, .int .i64 0] := by rw [hv21, hhb]; exact Bk.new _ _ _
            have hlb : W0.heap.size ≤ hb := by rw [hhb]; exact HB20.out.size
            rw [← hv21, ← hhb]
            clear hv21 hhb
            refine And.intro (HS2.out _ HB21.out) ?_
            (try simp only [Act.put, List.setIfInBounds_toArray, List.set_cons_zero, List.set_cons_succ])
            refine wpAnyH_oneW (i := 10) rfl (by kernel_rfl) (by rfl) ?_
            go_simp
            go_at_call 152
            (with_reducible refine (HBO.out _).mono ?_)
            rintro e v22 ⟨rfl, rfl⟩
            refine And.intro (HS2.out _ HB21.out) ?_
            (try simp only [Act.put, List.setIfInBounds_toArray, List.set_cons_zero, List.set_cons_succ])
            refine wpAnyH_oneW (i := 14) rfl (by kernel_rfl) (by rfl) ?_
            go_simp
            go_at_call 152
            (with_reducible refine (HRU.out _).mono ?_)
            rintro e v23 ⟨rfl, rfl⟩
            refine And.intro (HS2.out _ HB21.out) ?_
            (try simp only [Act.put, List.setIfInBounds_toArray, List.set_cons_zero, List.set_cons_succ])
            refine wpAnyH_val (i := 15) (v := .agg #[.int .i64 px, .int .i64 py, .int .i64 0, .int .i64 0, .int .i64 0, .int .i64 0, .int .i64 0, .int .i64 0, .int .i64 bou, .int .i64 rub, .slice none 0 0, .bool false, .int .i64 0]) (d := some 52) rfl rfl (by kernel_rfl) (by kernel_rfl) (by kernel_rfl) (fun _ _ _ h => h) (Or.inl ⟨by rfl, fun w hS => by (obtain ⟨h0, h1, h2, h3, h4, h5, h6, h7⟩ := hS; go_simp)⟩) (HS2.out _ HB21.out) ?_
            (try simp only [Act.put, List.setIfInBounds_toArray, List.set_cons_zero, List.set_cons_succ])
            have k0 : v21.cell? ⟨hb, 0, none⟩ = some (.int .i64 0) := hkb.cell 0
            have f0 : v21.frozen? ⟨hb, 0, none⟩ = false := hkb.frozen 0
            have k1 : v21.cell? ⟨hb, 1, none⟩ = some (.int .i64 0) := hkb.cell 1
            have f1 : v21.frozen? ⟨hb, 1, none⟩ = false := hkb.frozen 1
            have k2 : v21.cell? ⟨hb, 2, none⟩ = some (.int .i64 0) := hkb.cell 2
            have f2 : v21.frozen? ⟨hb, 2, none⟩ = false := hkb.frozen 2
            have k3 : v21.cell? ⟨hb, 3, none⟩ = some (.int .i64 0) := hkb.cell 3
            have f3 : v21.frozen? ⟨hb, 3, none⟩ = false := hkb.frozen 3
            have k4 : v21.cell? ⟨hb, 4, none⟩ = some (.int .i64 0) := hkb.cell 4
            have f4 : v21.frozen? ⟨hb, 4, none⟩ = false := hkb.frozen 4
            have k5 : v21.cell? ⟨hb, 5, none⟩ = some (.int .i64 0) := hkb.cell 5
            have f5 : v21.frozen? ⟨hb, 5, none⟩ = false := hkb.frozen 5
            have k6 : v21.cell? ⟨hb, 6, none⟩ = some (.int .i64 0) := hkb.cell 6
            have f6 : v21.frozen? ⟨hb, 6, none⟩ = false := hkb.frozen 6
            have k7 : v21.cell? ⟨hb, 7, none⟩ = some (.int .i64 0) := hkb.cell 7
            have f7 : v21.frozen? ⟨hb, 7, none⟩ = false := hkb.frozen 7
            have k8 : v21.cell? ⟨hb, 8, none⟩ = some (.int .i64 0) := hkb.cell 8
            have f8 : v21.frozen? ⟨hb, 8, none⟩ = false := hkb.frozen 8
            have k9 : v21.cell? ⟨hb, 9, none⟩ = some (.int .i64 0) := hkb.cell 9
            have f9 : v21.frozen? ⟨hb, 9, none⟩ = false := hkb.frozen 9
            have k10 : v21.cell? ⟨hb, 10, none⟩ = some (.slice none 0 0) := hkb.cell 10
            have f10 : v21.frozen? ⟨hb, 10, none⟩ = false := hkb.frozen 10
            have k11 : v21.cell? ⟨hb, 11, none⟩ = some (.bool false) := hkb.cell 11
            have f11 : v21.frozen? ⟨hb, 11, none⟩ = false := hkb.frozen 11
            have k12 : v21.cell? ⟨hb, 12, none⟩ = some (.int .i64 0) := hkb.cell 12
            have f12 : v21.frozen? ⟨hb, 12, none⟩ = false := hkb.frozen 12
            refine wpAnyH_oneW (i := 17) rfl (by kernel_rfl) (by rfl) ?_
            go_simp
            have HBL : Hid (Below W0.heap.size W0 (set13 v21 hb (.int .i64 px) (.int .i64 py) (.int .i64 0) (.int .i64 0) (.int .i64 0) (.int .i64 0) (.int .i64 0) (.int .i64 0) (.int .i64 bou) (.int .i64 rub) (.slice none 0 0) (.bool false) (.int .i64 0))) := Lib.hid (set13_below HB21.out hlb)
            refine And.intro (HS2.out _ HBL.out) ?_
            (try simp only [Act.put, List.setIfInBounds_toArray, List.set_cons_zero, List.set_cons_succ])
            refine wpAnyH_done (by kernel_rfl) ?_ _
            refine NoPanic.normal ?_
            have HKB : Hid (Bk (set13 v21 hb (.int .i64 px) (.int .i64 py) (.int .i64 0) (.int .i64 0) (.int .i64 0) (.int .i64 0) (.int .i64 0) (.int .i64 0) (.int .i64 bou) (.int .i64 rub) (.slice none 0 0) (.bool false) (.int .i64 0)) hb 124 #[.int .i64 px, .int .i64 py, .int .i64 0, .int .i64 0, .int .i64 0, .int .i64 0, .int .i64 0, .int .i64 0, .int .i64 bou, .int .i64 rub, .slice none 0 0, .bool false, .int .i64 0]) := Lib.hid (set13_bk hkb)
            go_wp2_with fail
            go_meet
            case rel => exact ⟨hb, rfl, Lib.hid ⟨hlb, HBL.out, HKB.out⟩⟩
        · go_simp
          obtain ⟨hb, hhb⟩ : ∃ hb, hb = v19.heap.size := ⟨_, rfl⟩
          obtain ⟨v20, hv20⟩ : ∃ v, v = v19.alloc (.cells #[.int .i64 0, .int .i64 0, .int .i64 0, .int .i64 0, .int .i64 0, .int .i64 0, .int .i64 0, .int .i64 0, .int .i64 0, .int .i64 0, .slice none 0 0, .bool false, .int .i64 0] 124) := ⟨_, rfl⟩
          have HB20 : Hid (Below W0.heap.size W0 v20) := Lib.hid (by rw [hv20]; exact HB19.out.alloc HB19.out.size _)
          have hkb : Bk v20 hb 124 #[.int .i64 0, .int .i64 0, .int .i64 0, .int .i64 0, .int .i64 0, .int .i64 0, .int .i64 0, .int .i64 0, .int .i64 0, .int .i64 0, .slice none 0 0, .bool false, .int .i64 0] := by rw [hv20, hhb]; exact Bk.new _ _ _
          have hlb : W0.heap.size ≤ hb := by rw [hhb]; exact HB19.out.size
          rw [← hv20, ← hhb]
          clear hv20 hhb
          refine And.intro (HS2.out _ HB20.out) ?_
          (try simp only [Act.put, List.setIfInBounds_toArray, List.set_cons_zero, List.set_cons_succ])
          refine wpAnyH_oneW (i := 6) rfl (by kernel_rfl) (by rfl) ?_
          go_simp
          go_at_call 199
          (with_reducible refine (HVP.out _).mono ?_)
          rintro e v21 ⟨rfl, hv21⟩
          have HB21 : Hid (Below W0.heap.size W0 v21) := Lib.hid (HB20.out.trans (hv21.mono HB20.out.size))
          have hkb21 := hkb.below hv21 hkb.lt
          clear hkb
          have hkb := hkb21
          clear hkb21
          clear hv21
          refine And.intro (HS2.out _ HB21.out) ?_
          (try simp only [Act.put, List.setIfInBounds_toArray, List.set_cons_zero, List.set_cons_succ])
          refine wpAnyH_oneW (i := 10) rfl (by kernel_rfl) (by rfl) ?_
          go_simp
          go_at_call 152
          (with_reducible refine (HBO.out _).mono ?_)
          rintro e v22 ⟨rfl, rfl⟩
          refine And.intro (HS2.out _ HB21.out) ?_
          (try simp only [Act.put, List.setIfInBounds_toArray, List.set_cons_zero, List.set_cons_succ])
          refine wpAnyH_oneW (i := 14) rfl (by kernel_rfl) (by rfl) ?_
          go_simp
          go_at_call 152
          (with_reducible refine (HRU.out _).mono ?_)
          rintro e v23 ⟨rfl, rfl⟩
          refine And.intro (HS2.out _ HB21.out) ?_
          (try simp only [Act.put, List.setIfInBounds_toArray, List.set_cons_zero, List.set_cons_succ])
          refine wpAnyH_val (i := 15) (v := .agg #[.int .i64 px, .int .i64 py, .int .i64 0, .int .i64 0, .int .i64 0, .int .i64 0, .int .i64 0, .int .i64 0, .int .i64 bou, .int .i64 rub, .slice none 0 0, .bool false, .int .i64 0]) (d := some 52) rfl rfl (by kernel_rfl) (by kernel_rfl) (by kernel_rfl) (fun _ _ _ h => h) (Or.inl ⟨by rfl, fun w hS => by (obtain ⟨h0, h1, h2, h3, h4, h5, h6, h7⟩ := hS; go_simp)⟩) (HS2.out _ HB21.out) ?_
          (try simp only [Act.put, List.setIfInBounds_toArray, List.set_cons_zero, List.set_cons_succ])
          have k0 : v21.cell? ⟨hb, 0, none⟩ = some (.int .i64 0) := hkb.cell 0
          have f0 : v21.frozen? ⟨hb, 0, none⟩ = false := hkb.frozen 0
          have k1 : v21.cell? ⟨hb, 1, none⟩ = some (.int .i64 0) := hkb.cell 1
          have f1 : v21.frozen? ⟨hb, 1, none⟩ = false := hkb.frozen 1
          have k2 : v21.cell? ⟨hb, 2, none⟩ = some (.int .i64 0) := hkb.cell 2
          have f2 : v21.frozen? ⟨hb, 2, none⟩ = false := hkb.frozen 2
          have k3 : v21.cell? ⟨hb, 3, none⟩ = some (.int .i64 0) := hkb.cell 3
          have f3 : v21.frozen? ⟨hb, 3, none⟩ = false := hkb.frozen 3
          have k4 : v21.cell? ⟨hb, 4, none⟩ = some (.int .i64 0) := hkb.cell 4
          have f4 : v21.frozen? ⟨hb, 4, none⟩ = false := hkb.frozen 4
          have k5 : v21.cell? ⟨hb, 5, none⟩ = some (.int .i64 0) := hkb.cell 5
          have f5 : v21.frozen? ⟨hb, 5, none⟩ = false := hkb.frozen 5
          have k6 : v21.cell? ⟨hb, 6, none⟩ = some (.int .i64 0) := hkb.cell 6
          have f6 : v21.frozen? ⟨hb, 6, none⟩ = false := hkb.frozen 6
          have k7 : v21.cell? ⟨hb, 7, none⟩ = some (.int .i64 0) := hkb.cell 7
          have f7 : v21.frozen? ⟨hb, 7, none⟩ = false := hkb.frozen 7
          have k8 : v21.cell? ⟨hb, 8, none⟩ = some (.int .i64 0) := hkb.cell 8
          have f8 : v21.frozen? ⟨hb, 8, none⟩ = false := hkb.frozen 8
          have k9 : v21.cell? ⟨hb, 9, none⟩ = some (.int .i64 0) := hkb.cell 9
          have f9 : v21.frozen? ⟨hb, 9, none⟩ = false := hkb.frozen 9
          have k10 : v21.cell? ⟨hb, 10, none⟩ = some (.slice none 0 0) := hkb.cell 10
          have f10 : v21.frozen? ⟨hb, 10, none⟩ = false := hkb.frozen 10
          have k11 : v21.cell? ⟨hb, 11, none⟩ = some (.bool false) := hkb.cell 11
          have f11 : v21.frozen? ⟨hb, 11, none⟩ = false := hkb.frozen 11
          have k12 : v21.cell? ⟨hb, 12, none⟩ = some (.int .i64 0) := hkb.cell 12
          have f12 : v21.frozen? ⟨hb, 12, none⟩ = false := hkb.frozen 12
          refine wpAnyH_oneW (i := 17) rfl (by kernel_rfl) (by rfl) ?_
          go_simp
          have HBL : Hid (Below W0.heap.size W0 (set13 v21 hb (.int .i64 px) (.int .i64 py) (.int .i64 0) (.int .i64 0) (.int .i64 0) (.int .i64 0) (.int .i64 0) (.int .i64 0) (.int .i64 bou) (.int .i64 rub) (.slice none 0 0) (.bool false) (.int .i64 0))) := Lib.hid (set13_below HB21.out hlb)
          refine And.intro (HS2.out _ HBL.out) ?_
          (try simp only [Act.put, List.setIfInBounds_toArray, List.set_cons_zero, List.set_cons_succ])
          refine wpAnyH_done (by kernel_rfl) ?_ _
          refine NoPanic.normal ?_
          have HKB : Hid (Bk (set13 v21 hb (.int .i64 px) (.int .i64 py) (.int .i64 0) (.int .i64 0) (.int .i64 0) (.int .i64 0) (.int .i64 0) (.int .i64 0) (.int .i64 bou) (.int .i64 rub) (.slice none 0 0) (.bool false) (.int .i64 0)) hb 124 #[.int .i64 px, .int .i64 py, .int .i64 0, .int .i64 0, .int .i64 0, .int .i64 0, .int .i64 0, .int .i64 0, .int .i64 bou, .int .i64 rub, .slice none 0 0, .bool false, .int .i64 0]) := Lib.hid (set13_bk hkb)
          go_wp2_with fail
          go_meet
          case rel => exact ⟨hb, rfl, Lib.hid ⟨hlb, HBL.out, HKB.out⟩⟩
      case rest =>
        obtain ⟨hb, rfl, HD⟩ := hcut
        obtain ⟨w9, rfl⟩ : ∃ q, q = wc := ⟨_, rfl⟩
        obtain ⟨hlb, hb9, hk9⟩ := HD.out
        have HB9 := Lib.hid hb9
        obtain ⟨ang, hang⟩ : ∃ z, z = p2 % 65536 := ⟨_, rfl⟩
        have hp2r : -8589934592 ≤ p2 ∧ p2 ≤ 8589934592 := by
          rw [HLP.out.2.2]
          exact HVO.out.1.rng pm HPS.out.1 _ (atI_mem (by have := HVO.out.1.len pm HPS.out.1; omega))
        obtain ⟨tm, htm⟩ : ∃ z, z = p2.tmod 65536 := ⟨_, rfl⟩
        have htm1 := tmod_rng p2
        rw [← htm] at htm1
        have hta : (tm + 65536).tmod 65536 = ang := by rw [hang, htm]; exact tmod_em16 p2
        have hwt : IntKind.i64.wrap (tm + 65536) = tm + 65536 := by rw [IntKind.wrap_i64]; omega
        have htm2 : p2.tmod 65536 = tm := htm.symm
        have HANG := Lib.hid hang
        have c2 : w9.cell? ⟨bp, op + 2, none⟩ = some (.int .i64 p2) := (HS2.out w9 hb9).2.2.1
        have k4 : w9.cell? ⟨hb, 4, none⟩ = some (.int .i64 0) := hk9.cell 4
        have f4 : w9.frozen? ⟨hb, 4, none⟩ = false := hk9.frozen 4
        have HK9 := Lib.hid hk9
        clear hang htm hp2r hb9 hk9 HB8
        go_upto_region 7 with fail
        obtain ⟨w10, hw10⟩ : ∃ z, z = w9.setCell ⟨hb, 4, none⟩ (.int .i64 ang) := ⟨_, rfl⟩
        have HB10 : Hid (Below W0.heap.size W0 w10) := Lib.hid (by rw [hw10]; exact HB9.out.setCell (p := ⟨hb, 4, none⟩) hlb _)
        have hk10 : Bk w10 hb 124 #[.int .i64 px, .int .i64 py, .int .i64 0, .int .i64 0, .int .i64 ang, .int .i64 0, .int .i64 0, .int .i64 0, .int .i64 bou, .int .i64 rub, .slice none 0 0, .bool false, .int .i64 0] := by rw [hw10]; simpa using HK9.out.set_ 4 (.int .i64 ang)
        rw [← hw10]
        clear hw10 c2 k4 f4 HK9 HB9 hta hwt htm2 htm1
        have hnw : IntKind.i64.wrap (-wd) = -wd := by rw [IntKind.wrap_i64]; omega
        have hnh : IntKind.i64.wrap (-hd) = -hd := by rw [IntKind.wrap_i64]; omega
        obtain ⟨gc, hgc⟩ : ∃ z, z = w10.heap.size := ⟨_, rfl⟩
        have HLG : Hid (W0.heap.size ≤ gc) := Lib.hid (by rw [hgc]; exact HB10.out.size)
        obtain ⟨w11, hw11⟩ : ∃ z, z = (w10.alloc (.cells #[.int .i64 (-wd), .int .i64 (-hd), .int .i64 wd, .int .i64 (-hd), .int .i64 wd, .int .i64 hd, .int .i64 (-wd), .int .i64 hd] 105)).setCell ⟨hb, 10, none⟩ (.slice (some ⟨gc, 0, none⟩) 4 4) := ⟨_, rfl⟩
        have k10 : (w10.alloc (.cells #[.int .i64 (-wd), .int .i64 (-hd), .int .i64 wd, .int .i64 (-hd), .int .i64 wd, .int .i64 hd, .int .i64 (-wd), .int .i64 hd] 105)).cell? ⟨hb, 10, none⟩ = some (.slice none 0 0) := (hk10.alloc _).cell 10
        have f10 : (w10.alloc (.cells #[.int .i64 (-wd), .int .i64 (-hd), .int .i64 wd, .int .i64 (-hd), .int .i64 wd, .int .i64 hd, .int .i64 (-wd), .int .i64 hd] 105)).frozen? ⟨hb, 10, none⟩ = false := (hk10.alloc _).frozen 10
        have hgb : gc ≠ hb := by have := hk10.lt; omega
        have HB11 : Hid (Below W0.heap.size W0 w11) := Lib.hid (by rw [hw11]; exact (HB10.out.alloc HB10.out.size _).setCell (p := ⟨hb, 10, none⟩) hlb _)
        have hk11 : Bk w11 hb 124 #[.int .i64 px, .int .i64 py, .int .i64 0, .int .i64 0, .int .i64 ang, .int .i64 0, .int .i64 0, .int .i64 0, .int .i64 bou, .int .i64 rub, .slice (some ⟨gc, 0, none⟩) 4 4, .bool false, .int .i64 0] := by rw [hw11]; simpa using (hk10.alloc (.cells #[.int .i64 (-wd), .int .i64 (-hd), .int .i64 wd, .int .i64 (-hd), .int .i64 wd, .int .i64 hd, .int .i64 (-wd), .int .i64 hd] 105)).set_ 10 (.slice (some ⟨gc, 0, none⟩) 4 4)
        have hg11 : Bk w11 gc 105 #[.int .i64 (-wd), .int .i64 (-hd), .int .i64 wd, .int .i64 (-hd), .int .i64 wd, .int .i64 hd, .int .i64 (-wd), .int .i64 hd] := by rw [hw11, hgc]; rw [hgc] at hgb; exact (Bk.new w10 105 _).far (p := ⟨hb, 10, none⟩) hgb _
        have HK11 := Lib.hid hk11
        have HG11 := Lib.hid hg11
        clear hk10 hk11 hg11 HB10
        go_upto_region 8 with fail
        rw [← hgc, ← hw11]
        clear hgc hw11 k10 f10 hnw hnh
        obtain ⟨c0, c1, c2, c3, c4, c5⟩ := HS1.out w11 HB11.out
        go_wp2_with fail
        (with_reducible refine (HCV.out w11 HB11.out).mono ?_)
        rintro e w12 ⟨rfl, hb12⟩
        have HBv : Hid (Below W0.heap.size W0 w12) := Lib.hid (HB11.out.trans (hb12.mono HB11.out.size))
        have HKX : Hid (Bk w12 hb 124 #[.int .i64 px, .int .i64 py, .int .i64 0, .int .i64 0, .int .i64 ang, .int .i64 0, .int .i64 0, .int .i64 0, .int .i64 bou, .int .i64 rub, .slice (some ⟨gc, 0, none⟩) 4 4, .bool false, .int .i64 0]) := Lib.hid (HK11.out.below hb12 HK11.out.lt)
        have HGX : Hid (Bk w12 gc 105 #[.int .i64 (-wd), .int .i64 (-hd), .int .i64 wd, .int .i64 (-hd), .int .i64 wd, .int .i64 hd, .int .i64 (-wd), .int .i64 hd]) := Lib.hid (HG11.out.below hb12 HG11.out.lt)
        clear hb12 HK11 HG11 c0 c1 c2 c3 c4 c5 HB11 HCV HS1
        have hb0e : bo0 pm.vals sm.vals = ⟨px, py, 0, 0, ang, 0, 0, 0, bou, rub, false, 0, wd, hd⟩ := by
          unfold bo0
          rw [HPX.out.1, HPX.out.2.1, HPX.out.2.2.1, HPX.out.2.2.2, HWH.out.1, HWH.out.2, HANG.out, ← HLP.out.1, ← HLP.out.2.1, ← HLP.out.2.2, ← HLS.out.1, ← HLS.out.2.1, ← HLS.out.2.2.2.1, ← HLS.out.2.2.2.2]
        have HB0 := Lib.hid hb0e
        clear hb0e
        cases hv : cmAt l m1 with
        | none =>
          have hVN : VV = .slice none 0 0 := by rw [HEV.out.2.2, hv]; rfl
          have HR : Hid (bodyF m0 m1 m2 l = some ⟨px, py, 0, 0, ang, 0, 0, 0, bou, rub, false, 0, wd, hd⟩) := Lib.hid (by unfold bodyF; rw [HPS.out.1, HPS.out.2.1, hv, ← HB0.out])
          subst hVN
          clear hv
          have kh := HKX.out
          have kz := H24.out w12 HBv.out
          have k0 : w12.cell? ⟨hb, 0, none⟩ = some (.int .i64 px) := kh.cell 0
          have k1 : w12.cell? ⟨hb, 1, none⟩ = some (.int .i64 py) := kh.cell 1
          have k2 : w12.cell? ⟨hb, 2, none⟩ = some (.int .i64 0) := kh.cell 2
          have k3 : w12.cell? ⟨hb, 3, none⟩ = some (.int .i64 0) := kh.cell 3
          have k4 : w12.cell? ⟨hb, 4, none⟩ = some (.int .i64 ang) := kh.cell 4
          have k5 : w12.cell? ⟨hb, 5, none⟩ = some (.int .i64 0) := kh.cell 5
          have k6 : w12.cell? ⟨hb, 6, none⟩ = some (.int .i64 0) := kh.cell 6
          have k7 : w12.cell? ⟨hb, 7, none⟩ = some (.int .i64 0) := kh.cell 7
          have k8 : w12.cell? ⟨hb, 8, none⟩ = some (.int .i64 bou) := kh.cell 8
          have k9 : w12.cell? ⟨hb, 9, none⟩ = some (.int .i64 rub) := kh.cell 9
          have k10 : w12.cell? ⟨hb, 10, none⟩ = some (.slice (some ⟨gc, 0, none⟩) 4 4) := kh.cell 10
          have k11 : w12.cell? ⟨hb, 11, none⟩ = some (.bool false) := kh.cell 11
          have k12 : w12.cell? ⟨hb, 12, none⟩ = some (.int .i64 0) := kh.cell 12
          have q0 : w12.cell? ⟨a0 + 1 + 1, 0, none⟩ = some (.int .i64 0) := kz.cell 0
          have f0 : w12.frozen? ⟨a0 + 1 + 1, 0, none⟩ = false := kz.frozen 0
          have q1 : w12.cell? ⟨a0 + 1 + 1, 1, none⟩ = some (.int .i64 0) := kz.cell 1
          have f1 : w12.frozen? ⟨a0 + 1 + 1, 1, none⟩ = false := kz.frozen 1
          have q2 : w12.cell? ⟨a0 + 1 + 1, 2, none⟩ = some (.int .i64 0) := kz.cell 2
          have f2 : w12.frozen? ⟨a0 + 1 + 1, 2, none⟩ = false := kz.frozen 2
          have q3 : w12.cell? ⟨a0 + 1 + 1, 3, none⟩ = some (.int .i64 0) := kz.cell 3
          have f3 : w12.frozen? ⟨a0 + 1 + 1, 3, none⟩ = false := kz.frozen 3
          have q4 : w12.cell? ⟨a0 + 1 + 1, 4, none⟩ = some (.int .i64 0) := kz.cell 4
          have f4 : w12.frozen? ⟨a0 + 1 + 1, 4, none⟩ = false := kz.frozen 4
          have q5 : w12.cell? ⟨a0 + 1 + 1, 5, none⟩ = some (.int .i64 0) := kz.cell 5
          have f5 : w12.frozen? ⟨a0 + 1 + 1, 5, none⟩ = false := kz.frozen 5
          have q6 : w12.cell? ⟨a0 + 1 + 1, 6, none⟩ = some (.int .i64 0) := kz.cell 6
          have f6 : w12.frozen? ⟨a0 + 1 + 1, 6, none⟩ = false := kz.frozen 6
          have q7 : w12.cell? ⟨a0 + 1 + 1, 7, none⟩ = some (.int .i64 0) := kz.cell 7
          have f7 : w12.frozen? ⟨a0 + 1 + 1, 7, none⟩ = false := kz.frozen 7
          have q8 : w12.cell? ⟨a0 + 1 + 1, 8, none⟩ = some (.int .i64 0) := kz.cell 8
          have f8 : w12.frozen? ⟨a0 + 1 + 1, 8, none⟩ = false := kz.frozen 8
          have q9 : w12.cell? ⟨a0 + 1 + 1, 9, none⟩ = some (.int .i64 0) := kz.cell 9
          have f9 : w12.frozen? ⟨a0 + 1 + 1, 9, none⟩ = false := kz.frozen 9
          have q10 : w12.cell? ⟨a0 + 1 + 1, 10, none⟩ = some (.slice none 0 0) := kz.cell 10
          have f10 : w12.frozen? ⟨a0 + 1 + 1, 10, none⟩ = false := kz.frozen 10
          have q11 : w12.cell? ⟨a0 + 1 + 1, 11, none⟩ = some (.bool false) := kz.cell 11
          have f11 : w12.frozen? ⟨a0 + 1 + 1, 11, none⟩ = false := kz.frozen 11
          have q12 : w12.cell? ⟨a0 + 1 + 1, 12, none⟩ = some (.int .i64 0) := kz.cell 12
          have f12 : w12.frozen? ⟨a0 + 1 + 1, 12, none⟩ = false := kz.frozen 12
          clear kh kz
          go_wp2_with fail
          (try simp only [Exit.inBlock, Exit.then])
          refine bodyPost_ret (v := .tuple #[.agg #[.int .i64 px, .int .i64 py, .int .i64 0, .int .i64 0, .int .i64 ang, .int .i64 0, .int .i64 0, .int .i64 0, .int .i64 bou, .int .i64 rub, .slice (some ⟨gc, 0, none⟩) 4 4, .bool false, .int .i64 0], .bool true]) ?_ rfl ?_
          · rw [results_cell_tmp rfl]
            go_simp
          · rw [HR.out]
            have hlo : w.heap.size ≤ a0 + 1 + 1 := by have := HW0.out.2.1; omega
            have hgx : gc ≠ a0 + 1 + 1 := by have := HLG.out; have := HW0.out.2.2; omega
            have hgw : w.heap.size ≤ gc := by have := HLG.out; have := HBW.out.size; omega
            show BoP w (some _) _ (set13 w12 (a0 + 1 + 1) (.int .i64 px) (.int .i64 py) (.int .i64 0) (.int .i64 0) (.int .i64 ang) (.int .i64 0) (.int .i64 0) (.int .i64 0) (.int .i64 bou) (.int .i64 rub) (.slice (some ⟨gc, 0, none⟩) 4 4) (.bool false) (.int .i64 0))
            refine ⟨HBW.out.trans (set13_below (HBv.out.mono HBW.out.size) hlo), gc, 4, rfl, ?_⟩
            exact ⟨rfl, .inr ⟨gc, 4, #[.int .i64 (-wd), .int .i64 (-hd), .int .i64 wd, .int .i64 (-hd), .int .i64 wd, .int .i64 hd, .int .i64 (-wd), .int .i64 hd], rfl, hgw, set13_ne HGX.out hgx, Nat.le_refl _, by unfold maxLen; omega, rfl, rfl⟩⟩
        | some vm =>
          obtain ⟨bv, ov, hvA, hvB, hvn, hvc, hvc2, hvat⟩ := (HH.out).atv hv (HVO.out.2.1.len vm hv) (by omega)
          have hVN : VV = .slice (some ⟨bv, ov, none⟩) 4 vm.c := by rw [HEV.out.2.2, hv]; show Value.slice vm.A vm.n vm.c = _; rw [hvA, hvn]
          subst hVN
          have hnv := fun wx => Lib.run_eql_slice_nil (P := Try.prog) wx 30 3 (some ⟨bv, ov, none⟩) 4 vm.c 0 0 Try.underlying30
          rw [hvn] at hvc
          obtain ⟨vc, hvce⟩ : ∃ z, z = vm.c := ⟨_, rfl⟩
          rw [← hvce] at hnv hvc hvc2 ⊢
          obtain ⟨v0, hv0⟩ : ∃ z, z = atI vm.vals 0 := ⟨_, rfl⟩
          obtain ⟨v1, hv1⟩ : ∃ z, z = atI vm.vals 1 := ⟨_, rfl⟩
          obtain ⟨v2, hv2⟩ : ∃ z, z = atI vm.vals 2 := ⟨_, rfl⟩
          obtain ⟨v3, hv3⟩ : ∃ z, z = atI vm.vals 3 := ⟨_, rfl⟩
          have HS3 : Hid (∀ wz, Below W0.heap.size W0 wz → wz.cell? ⟨bv, ov, none⟩ = some (.int .i64 v0) ∧ wz.cell? ⟨bv, ov + 1, none⟩ = some (.int .i64 v1) ∧ wz.cell? ⟨bv, ov + 2, none⟩ = some (.int .i64 v2) ∧ wz.cell? ⟨bv, ov + 3, none⟩ = some (.int .i64 v3)) := Lib.hid fun wz hz => by
            have hbz : Below w.heap.size w wz := HBW.out.trans (hz.mono HBW.out.size)
            have k1 : ∀ j, j < 4 → wz.cell? ⟨bv, ov + j, none⟩ = some (.int .i64 (atI vm.vals j)) := fun j hj => (World.cell?_of_block (w := w) (hbz.block bv (by omega))).trans (hvat j hj)
            rw [hv0, hv1, hv2, hv3]
            exact ⟨k1 0 (by omega), k1 1 (by omega), k1 2 (by omega), k1 3 (by omega)⟩
          have hv3r : -8589934592 ≤ v3 ∧ v3 ≤ 8589934592 := by
            rw [hv3]
            exact HVO.out.2.1.rng vm hv _ (atI_mem (by have := HVO.out.2.1.len vm hv; omega))
          have HLV := Lib.hid (And.intro hv (And.intro hv0 (And.intro hv1 (And.intro hv2 hv3))))
          clear hvat hvA hvB hvn hvce hv hv0 hv1 hv2 hv3
          have cs2 : w12.cell? ⟨bs, os + 2, none⟩ = some (.int .i64 s2) := (HS2.out w12 HBv.out).2.2.2.2.2.1
          by_cases hs1' : s2 < 1
          · have HR : Hid (bodyF m0 m1 m2 l = some ⟨px, py, 0, 0, ang, 0, 0, 0, bou, rub, false, 0, wd, hd⟩) := Lib.hid (by unfold bodyF; rw [HPS.out.1, HPS.out.2.1, HLV.out.1]; dsimp only; rw [← HLS.out.2.2.1, if_pos hs1', ← HB0.out])
            clear HS3 hv3r
            have kh := HKX.out
            have kz := H24.out w12 HBv.out
            have k0 : w12.cell? ⟨hb, 0, none⟩ = some (.int .i64 px) := kh.cell 0
            have k1 : w12.cell? ⟨hb, 1, none⟩ = some (.int .i64 py) := kh.cell 1
            have k2 : w12.cell? ⟨hb, 2, none⟩ = some (.int .i64 0) := kh.cell 2
            have k3 : w12.cell? ⟨hb, 3, none⟩ = some (.int .i64 0) := kh.cell 3
            have k4 : w12.cell? ⟨hb, 4, none⟩ = some (.int .i64 ang) := kh.cell 4
            have k5 : w12.cell? ⟨hb, 5, none⟩ = some (.int .i64 0) := kh.cell 5
            have k6 : w12.cell? ⟨hb, 6, none⟩ = some (.int .i64 0) := kh.cell 6
            have k7 : w12.cell? ⟨hb, 7, none⟩ = some (.int .i64 0) := kh.cell 7
            have k8 : w12.cell? ⟨hb, 8, none⟩ = some (.int .i64 bou) := kh.cell 8
            have k9 : w12.cell? ⟨hb, 9, none⟩ = some (.int .i64 rub) := kh.cell 9
            have k10 : w12.cell? ⟨hb, 10, none⟩ = some (.slice (some ⟨gc, 0, none⟩) 4 4) := kh.cell 10
            have k11 : w12.cell? ⟨hb, 11, none⟩ = some (.bool false) := kh.cell 11
            have k12 : w12.cell? ⟨hb, 12, none⟩ = some (.int .i64 0) := kh.cell 12
            have q0 : w12.cell? ⟨a0 + 1 + 1, 0, none⟩ = some (.int .i64 0) := kz.cell 0
            have f0 : w12.frozen? ⟨a0 + 1 + 1, 0, none⟩ = false := kz.frozen 0
            have q1 : w12.cell? ⟨a0 + 1 + 1, 1, none⟩ = some (.int .i64 0) := kz.cell 1
            have f1 : w12.frozen? ⟨a0 + 1 + 1, 1, none⟩ = false := kz.frozen 1
            have q2 : w12.cell? ⟨a0 + 1 + 1, 2, none⟩ = some (.int .i64 0) := kz.cell 2
            have f2 : w12.frozen? ⟨a0 + 1 + 1, 2, none⟩ = false := kz.frozen 2
            have q3 : w12.cell? ⟨a0 + 1 + 1, 3, none⟩ = some (.int .i64 0) := kz.cell 3
            have f3 : w12.frozen? ⟨a0 + 1 + 1, 3, none⟩ = false := kz.frozen 3
            have q4 : w12.cell? ⟨a0 + 1 + 1, 4, none⟩ = some (.int .i64 0) := kz.cell 4
            have f4 : w12.frozen? ⟨a0 + 1 + 1, 4, none⟩ = false := kz.frozen 4
            have q5 : w12.cell? ⟨a0 + 1 + 1, 5, none⟩ = some (.int .i64 0) := kz.cell 5
            have f5 : w12.frozen? ⟨a0 + 1 + 1, 5, none⟩ = false := kz.frozen 5
            have q6 : w12.cell? ⟨a0 + 1 + 1, 6, none⟩ = some (.int .i64 0) := kz.cell 6
            have f6 : w12.frozen? ⟨a0 + 1 + 1, 6, none⟩ = false := kz.frozen 6
            have q7 : w12.cell? ⟨a0 + 1 + 1, 7, none⟩ = some (.int .i64 0) := kz.cell 7
            have f7 : w12.frozen? ⟨a0 + 1 + 1, 7, none⟩ = false := kz.frozen 7
            have q8 : w12.cell? ⟨a0 + 1 + 1, 8, none⟩ = some (.int .i64 0) := kz.cell 8
            have f8 : w12.frozen? ⟨a0 + 1 + 1, 8, none⟩ = false := kz.frozen 8
            have q9 : w12.cell? ⟨a0 + 1 + 1, 9, none⟩ = some (.int .i64 0) := kz.cell 9
            have f9 : w12.frozen? ⟨a0 + 1 + 1, 9, none⟩ = false := kz.frozen 9
            have q10 : w12.cell? ⟨a0 + 1 + 1, 10, none⟩ = some (.slice none 0 0) := kz.cell 10
            have f10 : w12.frozen? ⟨a0 + 1 + 1, 10, none⟩ = false := kz.frozen 10
            have q11 : w12.cell? ⟨a0 + 1 + 1, 11, none⟩ = some (.bool false) := kz.cell 11
            have f11 : w12.frozen? ⟨a0 + 1 + 1, 11, none⟩ = false := kz.frozen 11
            have q12 : w12.cell? ⟨a0 + 1 + 1, 12, none⟩ = some (.int .i64 0) := kz.cell 12
            have f12 : w12.frozen? ⟨a0 + 1 + 1, 12, none⟩ = false := kz.frozen 12
            clear kh kz
            go_wp2_with fail
            (try simp only [Exit.inBlock, Exit.then])
            refine bodyPost_ret (v := .tuple #[.agg #[.int .i64 px, .int .i64 py, .int .i64 0, .int .i64 0, .int .i64 ang, .int .i64 0, .int .i64 0, .int .i64 0, .int .i64 bou, .int .i64 rub, .slice (some ⟨gc, 0, none⟩) 4 4, .bool false, .int .i64 0], .bool true]) ?_ rfl ?_
            · rw [results_cell_tmp rfl]
              go_simp
            · rw [HR.out]
              have hlo : w.heap.size ≤ a0 + 1 + 1 := by have := HW0.out.2.1; omega
              have hgx : gc ≠ a0 + 1 + 1 := by have := HLG.out; have := HW0.out.2.2; omega
              have hgw : w.heap.size ≤ gc := by have := HLG.out; have := HBW.out.size; omega
              show BoP w (some _) _ (set13 w12 (a0 + 1 + 1) (.int .i64 px) (.int .i64 py) (.int .i64 0) (.int .i64 0) (.int .i64 ang) (.int .i64 0) (.int .i64 0) (.int .i64 0) (.int .i64 bou) (.int .i64 rub) (.slice (some ⟨gc, 0, none⟩) 4 4) (.bool false) (.int .i64 0))
              refine ⟨HBW.out.trans (set13_below (HBv.out.mono HBW.out.size) hlo), gc, 4, rfl, ?_⟩
              exact ⟨rfl, .inr ⟨gc, 4, #[.int .i64 (-wd), .int .i64 (-hd), .int .i64 wd, .int .i64 (-hd), .int .i64 wd, .int .i64 hd, .int .i64 (-wd), .int .i64 hd], rfl, hgw, set13_ne HGX.out hgx, Nat.le_refl _, by unfold maxLen; omega, rfl, rfl⟩⟩
          · obtain ⟨vx, hvx⟩ : ∃ z, z = wiF v0 (-268435456) 268435456 := ⟨_, rfl⟩
            obtain ⟨vy, hvy⟩ : ∃ z, z = wiF v1 (-268435456) 268435456 := ⟨_, rfl⟩
            obtain ⟨spin, hspin⟩ : ∃ z, z = wiF v2 (-16777216) 16777216 := ⟨_, rfl⟩
            obtain ⟨mass, hmass⟩ : ∃ z, z = wiF s2 4096 65536000 := ⟨_, rfl⟩
            obtain ⟨calm, hcalm⟩ : ∃ z, z = wiF (v3.tdiv 2) 0 1000 := ⟨_, rfl⟩
            have HVV : Hid (∀ wz : World, Calls Try.prog 199 #[.int .i64 v0, .int .i64 v1, .int .i64 268435456] wz fun e w' => e = .returned (.agg #[.int .i64 vx, .int .i64 vy]) ∧ Below wz.heap.size wz w') := Lib.hid fun wz => by rw [hvx, hvy]; exact vec_any _ _ _ (by decide) (by decide) wz
            have HSP : Hid (∀ wz, Calls Try.prog 152 #[.int .i64 v2, .int .i64 (-16777216), .int .i64 16777216] wz fun e w' => e = .returned (.int .i64 spin) ∧ wz = w') := Lib.hid fun wz => by rw [hspin]; exact within_any _ _ _ (by decide) wz
            have HMS : Hid (∀ wz, Calls Try.prog 152 #[.int .i64 s2, .int .i64 4096, .int .i64 65536000] wz fun e w' => e = .returned (.int .i64 mass) ∧ wz = w') := Lib.hid fun wz => by rw [hmass]; exact within_any _ _ _ (by decide) wz
            have HCM : Hid (∀ wz, Calls Try.prog 152 #[.int .i64 (v3.tdiv 2), .int .i64 0, .int .i64 1000] wz fun e w' => e = .returned (.int .i64 calm) ∧ wz = w') := Lib.hid fun wz => by rw [hcalm]; exact within_any _ _ _ (by decide) wz
            have hms := wiF_in (n := s2) (lo := 4096) (hi := 65536000) (by decide)
            rw [← hmass] at hms
            obtain ⟨wn, hwn⟩ : ∃ z : Nat, wd = z := ⟨wd.toNat, by omega⟩
            obtain ⟨hn, hhn⟩ : ∃ z : Nat, hd = z := ⟨hd.toNat, by omega⟩
            obtain ⟨mn, hmn⟩ : ∃ z : Nat, mass = z := ⟨mass.toNat, by omega⟩
            obtain ⟨qa, hqa⟩ : ∃ z, z = mdF wn wn 65536 := ⟨_, rfl⟩
            obtain ⟨qb, hqb⟩ : ∃ z, z = mdF hn hn 65536 := ⟨_, rfl⟩
            have HM1 : Hid (∀ wz, Calls Try.prog 201 #[.int .i64 (wn : Int), .int .i64 (wn : Int)] wz fun e w' => e = .returned (.int .i64 (qa : Nat)) ∧ ∃ m, wz.drewN m = w') := Lib.hid fun wz => by rw [hqa]; exact fmul_any wn wn (by omega) (by omega) (sq_le (by omega) (by omega)) wz
            have HM2 : Hid (∀ wz, Calls Try.prog 201 #[.int .i64 (hn : Int), .int .i64 (hn : Int)] wz fun e w' => e = .returned (.int .i64 (qb : Nat)) ∧ ∃ m, wz.drewN m = w') := Lib.hid fun wz => by rw [hqb]; exact fmul_any hn hn (by omega) (by omega) (sq_le (by omega) (by omega)) wz
            have hq1 := md_sq (a := wn) (by omega)
            have hq2 := md_sq (a := hn) (by omega)
            rw [← hqa] at hq1
            rw [← hqb] at hq2
            obtain ⟨qs, hqs⟩ : ∃ z, z = qa + qb := ⟨_, rfl⟩
            have HM3 : Hid (∀ wz, Calls Try.prog 202 #[.int .i64 (qa : Nat), .int .i64 (qb : Nat)] wz fun e w' => e = .returned (.int .i64 (qs : Nat)) ∧ wz = w') := Lib.hid fun wz => by rw [hqs]; exact fadd_any _ _ (by omega) (by omega) wz
            have hq3 := md_mul (a := mn) (b := qs) (by omega) (by omega)
            obtain ⟨qm, hqm⟩ : ∃ z, z = mdF mn qs 65536 := ⟨_, rfl⟩
            have HM4 : Hid (∀ wz, Calls Try.prog 201 #[.int .i64 (mn : Int), .int .i64 (qs : Nat)] wz fun e w' => e = .returned (.int .i64 (qm : Nat)) ∧ ∃ m, wz.drewN m = w') := Lib.hid fun wz => by rw [hqm]; exact fmul_any _ _ (by omega) (by omega) hq3.1 wz
            obtain ⟨inn, hinn⟩ : ∃ z, z = inrF mn wn hn := ⟨_, rfl⟩
            have hinn2 : inn = mdF qm 65536 196608 := by rw [hinn, hqm, hqs, hqa, hqb]; rfl
            have HM5 : Hid (∀ wz, Calls Try.prog 200 #[.int .i64 (qm : Nat), .int .i64 196608] wz fun e w' => e = .returned (.tuple #[.int .i64 (inn : Nat), .int .i64 0]) ∧ ∃ m, wz.drewN m = w') := Lib.hid fun wz => by rw [hinn2]; exact fdiv_any _ (by rw [hqm]; exact hq3.2) wz
            clear hq1 hq2 hq3 hqs hqm hinn2 hqa hqb
            obtain ⟨inr, hinr⟩ : ∃ z : Int, z = max (inn : Int) 1 := ⟨_, rfl⟩
            obtain ⟨asl, hasl⟩ : ∃ z, z = decide (0 < v3 ∧ v3.tmod 2 = 1 ∧ vx = 0 ∧ vy = 0 ∧ spin = 0) := ⟨_, rfl⟩
            have HR : Hid (bodyF m0 m1 m2 l = some ⟨px, py, vx, vy, ang, spin, mass, inr, bou, rub, asl, calm, wd, hd⟩) := Lib.hid (by
              unfold bodyF
              rw [HPS.out.1, HPS.out.2.1, HLV.out.1]
              dsimp only
              rw [← HLS.out.2.2.1, if_neg hs1']
              unfold bo1
              rw [HB0.out, ← HLS.out.1, ← HLS.out.2.1, ← HLS.out.2.2.1, ← HLV.out.2.1, ← HLV.out.2.2.1, ← HLV.out.2.2.2.1, ← HLV.out.2.2.2.2, ← hvx, ← hvy, ← hspin, ← hmass, ← hcalm, ← HWH.out.1, ← HWH.out.2, hasl, hinr, hinn, hmn, hwn, hhn]
              rfl)
            have HASL := Lib.hid (And.intro hasl hinr)
            have HWN := Lib.hid (And.intro hwn (And.intro hhn hmn))
            clear hwn hhn hmn hvx hvy hspin hmass hcalm hinn hasl hinr
            go_upto_region 11 with fail
            have sV := HS3.out w12.drew HBv.out.drew
            have hkv : Bk w12.drew hb 124 #[.int .i64 px, .int .i64 py, .int .i64 0, .int .i64 0, .int .i64 ang, .int .i64 0, .int .i64 0, .int .i64 0, .int .i64 bou, .int .i64 rub, .slice (some ⟨gc, 0, none⟩) 4 4, .bool false, .int .i64 0] := HKX.out.drew
            have hgv : Bk w12.drew gc 105 #[.int .i64 (-wd), .int .i64 (-hd), .int .i64 wd, .int .i64 (-hd), .int .i64 wd, .int .i64 hd, .int .i64 (-wd), .int .i64 hd] := HGX.out.drew
            have HBv2 : Hid (Below W0.heap.size W0 w12.drew) := Lib.hid HBv.out.drew
            clear HKX HGX HBv cs2
            refine wp_region_noPanic ?_
            refine wp_region_H (S := fun wz => wz.cell? ⟨bv, ov, none⟩ = some (.int .i64 v0) ∧ wz.cell? ⟨bv, ov + 1, none⟩ = some (.int .i64 v1) ∧ wz.cell? ⟨bv, ov + 2, none⟩ = some (.int .i64 v2) ∧ wz.cell? ⟨bv, ov + 3, none⟩ = some (.int .i64 v3)) (by kernel_rfl) ?_
            generalize w12.drew = wv at *
            have HBv := HBv2
            clear HBv2
            refine wpAnyH_val (i := 0) (v := .slice (some ⟨bv, ov, none⟩) 4 vc) (d := some 91) rfl rfl (by kernel_rfl) (by kernel_rfl) (by kernel_rfl) (fun _ _ _ h => h) (Or.inl ⟨by rfl, fun w hS => by (obtain ⟨h0, h1, h2, h3⟩ := hS; go_simp)⟩) sV ?_
            (try simp only [Act.put, List.setIfInBounds_toArray, List.set_cons_zero, List.set_cons_succ])
            refine wpAnyH_val (i := 1) (v := .pointer (some ⟨bv, ov, none⟩)) (d := some 92) rfl rfl (by kernel_rfl) (by kernel_rfl) (by kernel_rfl) (fun _ _ _ h => h) (Or.inl ⟨by rfl, fun w hS => by (obtain ⟨h0, h1, h2, h3⟩ := hS; go_simp)⟩) sV ?_
            (try simp only [Act.put, List.setIfInBounds_toArray, List.set_cons_zero, List.set_cons_succ])
            refine wpAnyH_val (i := 2) (v := .int .i64 v0) (d := some 93) rfl rfl (by kernel_rfl) (by kernel_rfl) (by kernel_rfl) (fun _ _ _ h => h) (Or.inl ⟨by rfl, fun w hS => by (obtain ⟨h0, h1, h2, h3⟩ := hS; go_simp)⟩) sV ?_
            (try simp only [Act.put, List.setIfInBounds_toArray, List.set_cons_zero, List.set_cons_succ])
            refine wpAnyH_val (i := 3) (v := .slice (some ⟨bv, ov, none⟩) 4 vc) (d := some 94) rfl rfl (by kernel_rfl) (by kernel_rfl) (by kernel_rfl) (fun _ _ _ h => h) (Or.inl ⟨by rfl, fun w hS => by (obtain ⟨h0, h1, h2, h3⟩ := hS; go_simp)⟩) sV ?_
            (try simp only [Act.put, List.setIfInBounds_toArray, List.set_cons_zero, List.set_cons_succ])
            refine wpAnyH_val (i := 4) (v := .pointer (some ⟨bv, ov + 1, none⟩)) (d := some 95) rfl rfl (by kernel_rfl) (by kernel_rfl) (by kernel_rfl) (fun _ _ _ h => h) (Or.inl ⟨by rfl, fun w hS => by (obtain ⟨h0, h1, h2, h3⟩ := hS; go_simp)⟩) sV ?_
            (try simp only [Act.put, List.setIfInBounds_toArray, List.set_cons_zero, List.set_cons_succ])
            refine wpAnyH_val (i := 5) (v := .int .i64 v1) (d := some 96) rfl rfl (by kernel_rfl) (by kernel_rfl) (by kernel_rfl) (fun _ _ _ h => h) (Or.inl ⟨by rfl, fun w hS => by (obtain ⟨h0, h1, h2, h3⟩ := hS; go_simp)⟩) sV ?_
            (try simp only [Act.put, List.setIfInBounds_toArray, List.set_cons_zero, List.set_cons_succ])
            refine wpAnyH_val (i := 7) (v := .slice (some ⟨bv, ov, none⟩) 4 vc) (d := some 98) rfl rfl (by kernel_rfl) (by kernel_rfl) (by kernel_rfl) (fun _ _ _ h => h) (Or.inl ⟨by rfl, fun w hS => by (obtain ⟨h0, h1, h2, h3⟩ := hS; go_simp)⟩) sV ?_
            (try simp only [Act.put, List.setIfInBounds_toArray, List.set_cons_zero, List.set_cons_succ])
            refine wpAnyH_val (i := 8) (v := .pointer (some ⟨bv, ov + 2, none⟩)) (d := some 99) rfl rfl (by kernel_rfl) (by kernel_rfl) (by kernel_rfl) (fun _ _ _ h => h) (Or.inl ⟨by rfl, fun w hS => by (obtain ⟨h0, h1, h2, h3⟩ := hS; go_simp)⟩) sV ?_
            (try simp only [Act.put, List.setIfInBounds_toArray, List.set_cons_zero, List.set_cons_succ])
            refine wpAnyH_val (i := 9) (v := .int .i64 v2) (d := some 100) rfl rfl (by kernel_rfl) (by kernel_rfl) (by kernel_rfl) (fun _ _ _ h => h) (Or.inl ⟨by rfl, fun w hS => by (obtain ⟨h0, h1, h2, h3⟩ := hS; go_simp)⟩) sV ?_
            (try simp only [Act.put, List.setIfInBounds_toArray, List.set_cons_zero, List.set_cons_succ])
            refine wpAnyH_oneW (i := 6) rfl (by kernel_rfl) (by rfl) ?_
            go_simp
            go_at_call 199
            (with_reducible refine (HVV.out _).mono ?_)
            rintro e w13 ⟨rfl, hb13⟩
            have HB13 : Hid (Below W0.heap.size W0 w13) := Lib.hid (HBv.out.trans (hb13.mono HBv.out.size))
            have hk13 := hkv.below hb13 hkv.lt
            have hg13 := hgv.below hb13 hgv.lt
            refine And.intro (HS3.out _ HB13.out) ?_
            (try simp only [Act.put, List.setIfInBounds_toArray, List.set_cons_zero, List.set_cons_succ])
            refine wpAnyH_val (i := 11) (v := .pointer (some ⟨hb, 2, none⟩)) (d := some 102) rfl rfl (by kernel_rfl) (by kernel_rfl) (by kernel_rfl) (fun _ _ _ h => h) (Or.inl ⟨by rfl, fun w hS => by (obtain ⟨h0, h1, h2, h3⟩ := hS; go_simp)⟩) (HS3.out _ HB13.out) ?_
            (try simp only [Act.put, List.setIfInBounds_toArray, List.set_cons_zero, List.set_cons_succ])
            refine wpAnyH_oneW (i := 10) rfl (by kernel_rfl) (by rfl) ?_
            go_simp
            go_at_call 152
            (with_reducible refine (HSP.out _).mono ?_)
            rintro e w14 ⟨rfl, rfl⟩
            refine And.intro (HS3.out _ HB13.out) ?_
            (try simp only [Act.put, List.setIfInBounds_toArray, List.set_cons_zero, List.set_cons_succ])
            have k2 : w13.cell? ⟨hb, 2, none⟩ = some (.int .i64 0) := hk13.cell 2
            have f2 : w13.frozen? ⟨hb, 2, none⟩ = false := hk13.frozen 2
            have k3 : w13.cell? ⟨hb, 3, none⟩ = some (.int .i64 0) := hk13.cell 3
            have f3 : w13.frozen? ⟨hb, 3, none⟩ = false := hk13.frozen 3
            have k5 : w13.cell? ⟨hb, 5, none⟩ = some (.int .i64 0) := hk13.cell 5
            have f5 : w13.frozen? ⟨hb, 5, none⟩ = false := hk13.frozen 5
            have HB14 : Hid (Below W0.heap.size W0 ((w13.setCell ⟨hb, 2, none⟩ (.int .i64 vx)).setCell ⟨hb, 3, none⟩ (.int .i64 vy))) := Lib.hid ((HB13.out.setCell (p := ⟨hb, 2, none⟩) hlb _).setCell (p := ⟨hb, 3, none⟩) hlb _)
            refine wpAnyH_oneW (i := 12) rfl (by kernel_rfl) (by rfl) ?_
            go_simp
            refine And.intro (HS3.out _ HB14.out) ?_
            (try simp only [Act.put, List.setIfInBounds_toArray, List.set_cons_zero, List.set_cons_succ])
            refine wpAnyH_val (i := 13) (v := .pointer (some ⟨hb, 5, none⟩)) (d := some 103) rfl rfl (by kernel_rfl) (by kernel_rfl) (by kernel_rfl) (fun _ _ _ h => h) (Or.inl ⟨by rfl, fun w hS => by (obtain ⟨h0, h1, h2, h3⟩ := hS; go_simp)⟩) (HS3.out _ HB14.out) ?_
            (try simp only [Act.put, List.setIfInBounds_toArray, List.set_cons_zero, List.set_cons_succ])
            have HB15 : Hid (Below W0.heap.size W0 (((w13.setCell ⟨hb, 2, none⟩ (.int .i64 vx)).setCell ⟨hb, 3, none⟩ (.int .i64 vy)).setCell ⟨hb, 5, none⟩ (.int .i64 spin))) := Lib.hid (HB14.out.setCell (p := ⟨hb, 5, none⟩) hlb _)
            refine wpAnyH_oneW (i := 14) rfl (by kernel_rfl) (by rfl) ?_
            go_simp
            refine And.intro (HS3.out _ HB15.out) ?_
            (try simp only [Act.put, List.setIfInBounds_toArray, List.set_cons_zero, List.set_cons_succ])
            refine wpAnyH_done (by kernel_rfl) ?_ _
            refine NoPanic.normal ?_
            obtain ⟨w15, hw15⟩ : ∃ z, z = ((w13.setCell ⟨hb, 2, none⟩ (.int .i64 vx)).setCell ⟨hb, 3, none⟩ (.int .i64 vy)).setCell ⟨hb, 5, none⟩ (.int .i64 spin) := ⟨_, rfl⟩
            have hk15 : Bk w15 hb 124 #[.int .i64 px, .int .i64 py, .int .i64 vx, .int .i64 vy, .int .i64 ang, .int .i64 spin, .int .i64 0, .int .i64 0, .int .i64 bou, .int .i64 rub, .slice (some ⟨gc, 0, none⟩) 4 4, .bool false, .int .i64 0] := by rw [hw15]; simpa using ((hk13.set_ 2 (.int .i64 vx)).set_ 3 (.int .i64 vy)).set_ 5 (.int .i64 spin)
            have hg15 : Bk w15 gc 105 #[.int .i64 (-wd), .int .i64 (-hd), .int .i64 wd, .int .i64 (-hd), .int .i64 wd, .int .i64 hd, .int .i64 (-wd), .int .i64 hd] := by rw [hw15]; exact ((hg13.far (p := ⟨hb, 2, none⟩) hgb _).far (p := ⟨hb, 3, none⟩) hgb _).far (p := ⟨hb, 5, none⟩) hgb _
            rw [← hw15] at HB15 ⊢
            have HK15 := Lib.hid hk15
            have HG15 := Lib.hid hg15
            have cs2 : w15.cell? ⟨bs, os + 2, none⟩ = some (.int .i64 s2) := (HS2.out w15 HB15.out).2.2.2.2.2.1
            have k6 : w15.cell? ⟨hb, 6, none⟩ = some (.int .i64 0) := hk15.cell 6
            have f6 : w15.frozen? ⟨hb, 6, none⟩ = false := hk15.frozen 6
            clear hk15 hg15 hk13 hg13 hkv hgv HB14 HB13 hw15 sV k2 k3 k5 f2 f3 f5 HVV HSP hb13
            go_wp2_with fail
            (with_reducible refine (HMS.out w15).mono ?_)
            rintro e u ⟨rfl, rfl⟩
            go_upto_region 13 with fail
            obtain ⟨w16, hw16⟩ : ∃ z, z = w15.setCell ⟨hb, 6, none⟩ (.int .i64 mass) := ⟨_, rfl⟩
            have HB16 : Hid (Below W0.heap.size W0 w16) := Lib.hid (by rw [hw16]; exact HB15.out.setCell (p := ⟨hb, 6, none⟩) hlb _)
            have HK16 : Hid (Bk w16 hb 124 #[.int .i64 px, .int .i64 py, .int .i64 vx, .int .i64 vy, .int .i64 ang, .int .i64 spin, .int .i64 mass, .int .i64 0, .int .i64 bou, .int .i64 rub, .slice (some ⟨gc, 0, none⟩) 4 4, .bool false, .int .i64 0]) := Lib.hid (by rw [hw16]; simpa using HK15.out.set_ 6 (.int .i64 mass))
            have HG16 : Hid (Bk w16 gc 105 #[.int .i64 (-wd), .int .i64 (-hd), .int .i64 wd, .int .i64 (-hd), .int .i64 wd, .int .i64 hd, .int .i64 (-wd), .int .i64 hd]) := Lib.hid (by rw [hw16]; exact HG15.out.far (p := ⟨hb, 6, none⟩) hgb _)
            rw [← hw16]
            clear hw16 HK15 HG15 HB15 k6 f6 cs2 HMS
            have sM : w16.cell? ⟨hb, 6, none⟩ = some (.int .i64 (mn : Nat)) := by rw [← HWN.out.2.2]; exact HK16.out.cell 6
            rw [HWN.out.1, HWN.out.2.1]
            go_cut [12, 13] from 109 to 122 (fun s12 s13 wx => s12 = .int .i64 (inn : Nat) ∧ s13 = .int .i64 0 ∧ Hid (Below W0.heap.size W0 wx ∧ Bk wx hb 124 #[.int .i64 px, .int .i64 py, .int .i64 vx, .int .i64 vy, .int .i64 ang, .int .i64 spin, .int .i64 mass, .int .i64 0, .int .i64 bou, .int .i64 rub, .slice (some ⟨gc, 0, none⟩) 4 4, .bool false, .int .i64 0] ∧ Bk wx gc 105 #[.int .i64 (-wd), .int .i64 (-hd), .int .i64 wd, .int .i64 (-hd), .int .i64 wd, .int .i64 hd, .int .i64 (-wd), .int .i64 hd]))
            case first =>
              refine wp_region_noPanic ?_
              refine wp_region_H (S := fun wz => wz.cell? ⟨hb, 6, none⟩ = some (.int .i64 (mn : Nat))) (by kernel_rfl) ?_
              refine wpAnyH_val (i := 0) (v := .pointer (some ⟨hb, 6, none⟩)) (d := some 110) rfl rfl (by kernel_rfl) (by kernel_rfl) (by kernel_rfl) (fun _ _ _ h => h) (Or.inl ⟨by rfl, fun w hS => by (go_simp)⟩) sM ?_
              (try simp only [Act.put, List.setIfInBounds_toArray, List.set_cons_zero, List.set_cons_succ])
              refine wpAnyH_val (i := 1) (v := .int .i64 (mn : Nat)) (d := some 111) rfl rfl (by kernel_rfl) (by kernel_rfl) (by kernel_rfl) (fun _ _ _ h => h) (Or.inl ⟨by rfl, fun w hS => by (go_simp)⟩) sM ?_
              (try simp only [Act.put, List.setIfInBounds_toArray, List.set_cons_zero, List.set_cons_succ])
              refine wpAnyH_val (i := 2) (v := .int .i64 (wn : Nat)) (d := some 112) rfl rfl (by kernel_rfl) (by kernel_rfl) (by kernel_rfl) (fun _ _ _ h => h) (Or.inl ⟨by rfl, fun w hS => by (go_simp)⟩) sM ?_
              (try simp only [Act.put, List.setIfInBounds_toArray, List.set_cons_zero, List.set_cons_succ])
              refine wpAnyH_val (i := 3) (v := .int .i64 (wn : Nat)) (d := some 113) rfl rfl (by kernel_rfl) (by kernel_rfl) (by kernel_rfl) (fun _ _ _ h => h) (Or.inl ⟨by rfl, fun w hS => by (go_simp)⟩) sM ?_
              (try simp only [Act.put, List.setIfInBounds_toArray, List.set_cons_zero, List.set_cons_succ])
              refine wpAnyH_val (i := 5) (v := .int .i64 (hn : Nat)) (d := some 115) rfl rfl (by kernel_rfl) (by kernel_rfl) (by kernel_rfl) (fun _ _ _ h => h) (Or.inl ⟨by rfl, fun w hS => by (go_simp)⟩) sM ?_
              (try simp only [Act.put, List.setIfInBounds_toArray, List.set_cons_zero, List.set_cons_succ])
              refine wpAnyH_val (i := 6) (v := .int .i64 (hn : Nat)) (d := some 116) rfl rfl (by kernel_rfl) (by kernel_rfl) (by kernel_rfl) (fun _ _ _ h => h) (Or.inl ⟨by rfl, fun w hS => by (go_simp)⟩) sM ?_
              (try simp only [Act.put, List.setIfInBounds_toArray, List.set_cons_zero, List.set_cons_succ])
              refine wpAnyH_oneW (i := 4) rfl (by kernel_rfl) (by rfl) ?_
              go_simp
              go_at_call 201
              (with_reducible refine (HM1.out _).mono ?_)
              rintro e u ⟨rfl, m1, rfl⟩
              refine And.intro sM ?_
              (try simp only [Act.put, List.setIfInBounds_toArray, List.set_cons_zero, List.set_cons_succ])
              refine wpAnyH_oneW (i := 7) rfl (by kernel_rfl) (by rfl) ?_
              go_simp
              go_at_call 201
              (with_reducible refine (HM2.out _).mono ?_)
              rintro e u ⟨rfl, m2, rfl⟩
              refine And.intro sM ?_
              (try simp only [Act.put, List.setIfInBounds_toArray, List.set_cons_zero, List.set_cons_succ])
              refine wpAnyH_oneW (i := 8) rfl (by kernel_rfl) (by rfl) ?_
              go_simp
              go_at_call 202
              (with_reducible refine (HM3.out _).mono ?_)
              rintro e u ⟨rfl, rfl⟩
              refine And.intro sM ?_
              (try simp only [Act.put, List.setIfInBounds_toArray, List.set_cons_zero, List.set_cons_succ])
              refine wpAnyH_oneW (i := 9) rfl (by kernel_rfl) (by rfl) ?_
              go_simp
              go_at_call 201
              (with_reducible refine (HM4.out _).mono ?_)
              rintro e u ⟨rfl, m4, rfl⟩
              refine And.intro sM ?_
              (try simp only [Act.put, List.setIfInBounds_toArray, List.set_cons_zero, List.set_cons_succ])
              refine wpAnyH_oneW (i := 10) rfl (by kernel_rfl) (by rfl) ?_
              go_simp
              go_at_call 200
              (with_reducible refine (HM5.out _).mono ?_)
              rintro e u ⟨rfl, m5, rfl⟩
              refine And.intro sM ?_
              (try simp only [Act.put, List.setIfInBounds_toArray, List.set_cons_zero, List.set_cons_succ])
              refine wpAnyH_val (i := 11) (v := .tuple #[.int .i64 (inn : Nat), .int .i64 0]) (d := some 109) rfl rfl (by kernel_rfl) (by kernel_rfl) (by kernel_rfl) (fun _ _ _ h => h) (Or.inl ⟨by rfl, fun w hS => by (go_simp)⟩) sM ?_
              (try simp only [Act.put, List.setIfInBounds_toArray, List.set_cons_zero, List.set_cons_succ])
              refine wpAnyH_val (i := 12) (v := .int .i64 (inn : Nat)) (d := some 121) rfl rfl (by kernel_rfl) (by kernel_rfl) (by kernel_rfl) (fun _ _ _ h => h) (Or.inl ⟨by rfl, fun w hS => by (go_simp)⟩) sM ?_
              (try simp only [Act.put, List.setIfInBounds_toArray, List.set_cons_zero, List.set_cons_succ])
              refine wpAnyH_val (i := 13) (v := .int .i64 0) (d := some 122) rfl rfl (by kernel_rfl) (by kernel_rfl) (by kernel_rfl) (fun _ _ _ h => h) (Or.inl ⟨by rfl, fun w hS => by (go_simp)⟩) sM ?_
              (try simp only [Act.put, List.setIfInBounds_toArray, List.set_cons_zero, List.set_cons_succ])
              refine wpAnyH_val (i := 14) (v := .int .i64 (inn : Nat)) (d := some 12) rfl rfl (by kernel_rfl) (by kernel_rfl) (by kernel_rfl) (fun _ _ _ h => h) (Or.inl ⟨by rfl, fun w hS => by (go_simp)⟩) sM ?_
              (try simp only [Act.put, List.setIfInBounds_toArray, List.set_cons_zero, List.set_cons_succ])
              refine wpAnyH_val (i := 15) (v := .int .i64 0) (d := some 13) rfl rfl (by kernel_rfl) (by kernel_rfl) (by kernel_rfl) (fun _ _ _ h => h) (Or.inl ⟨by rfl, fun w hS => by (go_simp)⟩) sM ?_
              (try simp only [Act.put, List.setIfInBounds_toArray, List.set_cons_zero, List.set_cons_succ])
              refine wpAnyH_done (by kernel_rfl) ?_ _
              refine NoPanic.normal ?_
              go_wp2_with fail
              go_meet
              case rel => exact ⟨rfl, rfl, Lib.hid ⟨by first | exact below_dn HB16.out _ | exact below_dn (below_dn HB16.out _) _, by first | exact HK16.out.drewN _ | exact (HK16.out.drewN _).drewN _, by first | exact HG16.out.drewN _ | exact (HG16.out.drewN _).drewN _⟩⟩
            case rest =>
              obtain ⟨rfl, rfl, HD⟩ := hcut
              obtain ⟨w17, rfl⟩ : ∃ q, q = wc := ⟨_, rfl⟩
              obtain ⟨hb17, hk17, hg17⟩ := HD.out
              have HD17 := HD
              have k7 : w17.cell? ⟨hb, 7, none⟩ = some (.int .i64 0) := hk17.cell 7
              have f7 : w17.frozen? ⟨hb, 7, none⟩ = false := hk17.frozen 7
              clear hb17 hk17 hg17 HD sM HB16 HK16 HG16 HM1 HM2 HM3 HM4 HM5
              go_upto_region 14 with fail
              go_cut [125] from 123 to 124 (fun s125 wx => s125 = .pointer (some ⟨hb, 7, none⟩) ∧ Hid (Below W0.heap.size W0 wx ∧ Bk wx hb 124 #[.int .i64 px, .int .i64 py, .int .i64 vx, .int .i64 vy, .int .i64 ang, .int .i64 spin, .int .i64 mass, .int .i64 inr, .int .i64 bou, .int .i64 rub, .slice (some ⟨gc, 0, none⟩) 4 4, .bool false, .int .i64 0] ∧ Bk wx gc 105 #[.int .i64 (-wd), .int .i64 (-hd), .int .i64 wd, .int .i64 (-hd), .int .i64 wd, .int .i64 hd, .int .i64 (-wd), .int .i64 hd]))
              case first =>
                go_wp2_with fail
                all_goals
                  go_meet
                  case rel =>
                    first
                      | (have e : inr = 1 := by have h9 := HASL.out.2; rw [Int.max_def] at h9; split at h9 <;> omega
                         rw [e]
                         exact ⟨rfl, Lib.hid ⟨HD17.out.1.setCell (p := ⟨hb, 7, none⟩) hlb _, by simpa using HD17.out.2.1.set_ 7 (.int .i64 1), HD17.out.2.2.far (p := ⟨hb, 7, none⟩) hgb _⟩⟩)
                      | (have e : inr = inn := by have h9 := HASL.out.2; rw [Int.max_def] at h9; split at h9 <;> omega
                         rw [e]
                         exact ⟨rfl, Lib.hid ⟨HD17.out.1.setCell (p := ⟨hb, 7, none⟩) hlb _, by simpa using HD17.out.2.1.set_ 7 (.int .i64 (inn : Nat)), HD17.out.2.2.far (p := ⟨hb, 7, none⟩) hgb _⟩⟩)
              case rest =>
                obtain ⟨rfl, HD⟩ := hcut
                obtain ⟨w18, rfl⟩ : ∃ q, q = wc := ⟨_, rfl⟩
                obtain ⟨hb18, hk18, hg18⟩ := HD.out
                have HD18 := HD
                have cv3 : w18.cell? ⟨bv, ov + 3, none⟩ = some (.int .i64 v3) := (HS3.out w18 hb18).2.2.2
                have k12 : w18.cell? ⟨hb, 12, none⟩ = some (.int .i64 0) := hk18.cell 12
                have f12 : w18.frozen? ⟨hb, 12, none⟩ = false := hk18.frozen 12
                have hw2 : IntKind.i64.wrap (v3.tdiv 2) = v3.tdiv 2 := by have h9 := tdiv2_rng v3 8589934592 hv3r; rw [IntKind.wrap_i64]; omega
                clear hb18 hk18 hg18 HD HD17 k7 f7
                go_wp2_with fail
                (with_reducible refine (HCM.out w18).mono ?_)
                rintro e u ⟨rfl, rfl⟩
                go_upto_region 16 with fail
                obtain ⟨w19, hw19⟩ : ∃ z, z = w18.setCell ⟨hb, 12, none⟩ (.int .i64 calm) := ⟨_, rfl⟩
                have HD19 : Hid (Below W0.heap.size W0 w19 ∧ Bk w19 hb 124 #[.int .i64 px, .int .i64 py, .int .i64 vx, .int .i64 vy, .int .i64 ang, .int .i64 spin, .int .i64 mass, .int .i64 inr, .int .i64 bou, .int .i64 rub, .slice (some ⟨gc, 0, none⟩) 4 4, .bool false, .int .i64 calm] ∧ Bk w19 gc 105 #[.int .i64 (-wd), .int .i64 (-hd), .int .i64 wd, .int .i64 (-hd), .int .i64 wd, .int .i64 hd, .int .i64 (-wd), .int .i64 hd]) := Lib.hid (by rw [hw19]; exact ⟨HD18.out.1.setCell (p := ⟨hb, 12, none⟩) hlb _, by simpa using HD18.out.2.1.set_ 12 (.int .i64 calm), HD18.out.2.2.far (p := ⟨hb, 12, none⟩) hgb _⟩)
                rw [← hw19]
                clear hw19 cv3 k12 f12 hw2 HD18 HCM
                have cv3 : w19.cell? ⟨bv, ov + 3, none⟩ = some (.int .i64 v3) := (HS3.out w19 HD19.out.1).2.2.2
                have k2 : w19.cell? ⟨hb, 2, none⟩ = some (.int .i64 vx) := HD19.out.2.1.cell 2
                have k3 : w19.cell? ⟨hb, 3, none⟩ = some (.int .i64 vy) := HD19.out.2.1.cell 3
                have k5 : w19.cell? ⟨hb, 5, none⟩ = some (.int .i64 spin) := HD19.out.2.1.cell 5
                have k11 : w19.cell? ⟨hb, 11, none⟩ = some (.bool false) := HD19.out.2.1.cell 11
                have f11 : w19.frozen? ⟨hb, 11, none⟩ = false := HD19.out.2.1.frozen 11
                go_cut [154] from 132 to 153 (fun s154 wx => s154 = .pointer (some ⟨hb, 11, none⟩) ∧ Hid (Below W0.heap.size W0 wx ∧ Bk wx hb 124 #[.int .i64 px, .int .i64 py, .int .i64 vx, .int .i64 vy, .int .i64 ang, .int .i64 spin, .int .i64 mass, .int .i64 inr, .int .i64 bou, .int .i64 rub, .slice (some ⟨gc, 0, none⟩) 4 4, .bool asl, .int .i64 calm] ∧ Bk wx gc 105 #[.int .i64 (-wd), .int .i64 (-hd), .int .i64 wd, .int .i64 (-hd), .int .i64 wd, .int .i64 hd, .int .i64 (-wd), .int .i64 hd]))
                case first =>
                  obtain ⟨d3, hd3⟩ : ∃ d, d = decide (vx = 0 ∧ vy = 0) := ⟨_, rfl⟩
                  obtain ⟨d4, hd4⟩ : ∃ d, d = decide (spin = 0) := ⟨_, rfl⟩
                  have t4 : (spin == 0) = d4 := by rw [hd4, Bool.eq_iff_iff]; simp
                  have E : ∀ w, Sem.run Try.prog (Op.equalIn 10000 105 (.agg #[.int .i64 vx, .int .i64 vy]) (.agg #[.int .i64 0, .int .i64 0])) w = .ok d3 w := fun w => by rw [hd3]; exact eq105 _ _ _ _ w
                  have HA : Hid (asl = (decide (0 < v3) && (decide (v3.tmod 2 = 1) && (d3 && d4)))) := Lib.hid (by rw [HASL.out.1, hd3, hd4, Bool.eq_iff_iff]; simp [and_assoc])
                  clear hd3 hd4
                  by_cases h1 : 0 < v3
                  · have hte : v3.tmod 2 = v3 % 2 := Int.tmod_eq_emod_of_nonneg (by omega)
                    by_cases h2 : v3 % 2 = 1
                    · have HA2 : Hid (asl = (d3 && d4)) := Lib.hid (by rw [HA.out, decide_eq_true h1, hte, decide_eq_true h2, Bool.true_and, Bool.true_and])
                      clear HA hte
                      cases d3
                      · have e : asl = false := by rw [HA2.out]; rfl
                        clear HA2
                        subst e
                        go_wp2_with fail
                        go_meet
                        case rel => exact ⟨rfl, Lib.hid ⟨HD19.out.1.setCell (p := ⟨hb, 11, none⟩) hlb _, by simpa using HD19.out.2.1.set_ 11 (.bool false), HD19.out.2.2.far (p := ⟨hb, 11, none⟩) hgb _⟩⟩
                      · cases d4
                        · have e : asl = false := by rw [HA2.out]; rfl
                          clear HA2
                          subst e
                          go_wp2_with fail
                          go_meet
                          case rel => exact ⟨rfl, Lib.hid ⟨HD19.out.1.setCell (p := ⟨hb, 11, none⟩) hlb _, by simpa using HD19.out.2.1.set_ 11 (.bool false), HD19.out.2.2.far (p := ⟨hb, 11, none⟩) hgb _⟩⟩
                        · have e : asl = true := by rw [HA2.out]; rfl
                          clear HA2
                          subst e
                          go_wp2_with fail
                          go_meet
                          case rel => exact ⟨rfl, Lib.hid ⟨HD19.out.1.setCell (p := ⟨hb, 11, none⟩) hlb _, by simpa using HD19.out.2.1.set_ 11 (.bool true), HD19.out.2.2.far (p := ⟨hb, 11, none⟩) hgb _⟩⟩
                    · have e : asl = false := by rw [HA.out, decide_eq_true h1, hte, decide_eq_false h2, Bool.true_and, Bool.false_and]
                      clear HA hte
                      subst e
                      go_wp2_with fail
                      go_meet
                      case rel => exact ⟨rfl, Lib.hid ⟨HD19.out.1.setCell (p := ⟨hb, 11, none⟩) hlb _, by simpa using HD19.out.2.1.set_ 11 (.bool false), HD19.out.2.2.far (p := ⟨hb, 11, none⟩) hgb _⟩⟩
                  · have e : asl = false := by rw [HA.out, decide_eq_false h1, Bool.false_and]
                    clear HA
                    subst e
                    go_wp2_with fail
                    go_meet
                    case rel => exact ⟨rfl, Lib.hid ⟨HD19.out.1.setCell (p := ⟨hb, 11, none⟩) hlb _, by simpa using HD19.out.2.1.set_ 11 (.bool false), HD19.out.2.2.far (p := ⟨hb, 11, none⟩) hgb _⟩⟩
                case rest =>
                  obtain ⟨rfl, HD⟩ := hcut
                  obtain ⟨w20, rfl⟩ : ∃ q, q = wc := ⟨_, rfl⟩
                  have HBv : Hid (Below W0.heap.size W0 w20) := Lib.hid HD.out.1
                  have HKX := Lib.hid HD.out.2.1
                  have HGX := Lib.hid HD.out.2.2
                  clear HD HD19 cv3 k2 k3 k5 k11 f11
                  have kh := HKX.out
                  have kz := H24.out w20 HBv.out
                  have k0 : w20.cell? ⟨hb, 0, none⟩ = some (.int .i64 px) := kh.cell 0
                  have k1 : w20.cell? ⟨hb, 1, none⟩ = some (.int .i64 py) := kh.cell 1
                  have k2 : w20.cell? ⟨hb, 2, none⟩ = some (.int .i64 vx) := kh.cell 2
                  have k3 : w20.cell? ⟨hb, 3, none⟩ = some (.int .i64 vy) := kh.cell 3
                  have k4 : w20.cell? ⟨hb, 4, none⟩ = some (.int .i64 ang) := kh.cell 4
                  have k5 : w20.cell? ⟨hb, 5, none⟩ = some (.int .i64 spin) := kh.cell 5
                  have k6 : w20.cell? ⟨hb, 6, none⟩ = some (.int .i64 mass) := kh.cell 6
                  have k7 : w20.cell? ⟨hb, 7, none⟩ = some (.int .i64 inr) := kh.cell 7
                  have k8 : w20.cell? ⟨hb, 8, none⟩ = some (.int .i64 bou) := kh.cell 8
                  have k9 : w20.cell? ⟨hb, 9, none⟩ = some (.int .i64 rub) := kh.cell 9
                  have k10 : w20.cell? ⟨hb, 10, none⟩ = some (.slice (some ⟨gc, 0, none⟩) 4 4) := kh.cell 10
                  have k11 : w20.cell? ⟨hb, 11, none⟩ = some (.bool asl) := kh.cell 11
                  have k12 : w20.cell? ⟨hb, 12, none⟩ = some (.int .i64 calm) := kh.cell 12
                  have q0 : w20.cell? ⟨a0 + 1 + 1, 0, none⟩ = some (.int .i64 0) := kz.cell 0
                  have f0 : w20.frozen? ⟨a0 + 1 + 1, 0, none⟩ = false := kz.frozen 0
                  have q1 : w20.cell? ⟨a0 + 1 + 1, 1, none⟩ = some (.int .i64 0) := kz.cell 1
                  have f1 : w20.frozen? ⟨a0 + 1 + 1, 1, none⟩ = false := kz.frozen 1
                  have q2 : w20.cell? ⟨a0 + 1 + 1, 2, none⟩ = some (.int .i64 0) := kz.cell 2
                  have f2 : w20.frozen? ⟨a0 + 1 + 1, 2, none⟩ = false := kz.frozen 2
                  have q3 : w20.cell? ⟨a0 + 1 + 1, 3, none⟩ = some (.int .i64 0) := kz.cell 3
                  have f3 : w20.frozen? ⟨a0 + 1 + 1, 3, none⟩ = false := kz.frozen 3
                  have q4 : w20.cell? ⟨a0 + 1 + 1, 4, none⟩ = some (.int .i64 0) := kz.cell 4
                  have f4 : w20.frozen? ⟨a0 + 1 + 1, 4, none⟩ = false := kz.frozen 4
                  have q5 : w20.cell? ⟨a0 + 1 + 1, 5, none⟩ = some (.int .i64 0) := kz.cell 5
                  have f5 : w20.frozen? ⟨a0 + 1 + 1, 5, none⟩ = false := kz.frozen 5
                  have q6 : w20.cell? ⟨a0 + 1 + 1, 6, none⟩ = some (.int .i64 0) := kz.cell 6
                  have f6 : w20.frozen? ⟨a0 + 1 + 1, 6, none⟩ = false := kz.frozen 6
                  have q7 : w20.cell? ⟨a0 + 1 + 1, 7, none⟩ = some (.int .i64 0) := kz.cell 7
                  have f7 : w20.frozen? ⟨a0 + 1 + 1, 7, none⟩ = false := kz.frozen 7
                  have q8 : w20.cell? ⟨a0 + 1 + 1, 8, none⟩ = some (.int .i64 0) := kz.cell 8
                  have f8 : w20.frozen? ⟨a0 + 1 + 1, 8, none⟩ = false := kz.frozen 8
                  have q9 : w20.cell? ⟨a0 + 1 + 1, 9, none⟩ = some (.int .i64 0) := kz.cell 9
                  have f9 : w20.frozen? ⟨a0 + 1 + 1, 9, none⟩ = false := kz.frozen 9
                  have q10 : w20.cell? ⟨a0 + 1 + 1, 10, none⟩ = some (.slice none 0 0) := kz.cell 10
                  have f10 : w20.frozen? ⟨a0 + 1 + 1, 10, none⟩ = false := kz.frozen 10
                  have q11 : w20.cell? ⟨a0 + 1 + 1, 11, none⟩ = some (.bool false) := kz.cell 11
                  have f11 : w20.frozen? ⟨a0 + 1 + 1, 11, none⟩ = false := kz.frozen 11
                  have q12 : w20.cell? ⟨a0 + 1 + 1, 12, none⟩ = some (.int .i64 0) := kz.cell 12
                  have f12 : w20.frozen? ⟨a0 + 1 + 1, 12, none⟩ = false := kz.frozen 12
                  clear kh kz
                  go_wp2_with fail
                  (try simp only [Exit.inBlock, Exit.then])
                  refine bodyPost_ret (v := .tuple #[.agg #[.int .i64 px, .int .i64 py, .int .i64 vx, .int .i64 vy, .int .i64 ang, .int .i64 spin, .int .i64 mass, .int .i64 inr, .int .i64 bou, .int .i64 rub, .slice (some ⟨gc, 0, none⟩) 4 4, .bool asl, .int .i64 calm], .bool true]) ?_ rfl ?_
                  · rw [results_cell_tmp rfl]
                    go_simp
                  · rw [HR.out]
                    have hlo : w.heap.size ≤ a0 + 1 + 1 := by have := HW0.out.2.1; omega
                    have hgx : gc ≠ a0 + 1 + 1 := by have := HLG.out; have := HW0.out.2.2; omega
                    have hgw : w.heap.size ≤ gc := by have := HLG.out; have := HBW.out.size; omega
                    show BoP w (some _) _ (set13 w20 (a0 + 1 + 1) (.int .i64 px) (.int .i64 py) (.int .i64 vx) (.int .i64 vy) (.int .i64 ang) (.int .i64 spin) (.int .i64 mass) (.int .i64 inr) (.int .i64 bou) (.int .i64 rub) (.slice (some ⟨gc, 0, none⟩) 4 4) (.bool asl) (.int .i64 calm))
                    refine ⟨HBW.out.trans (set13_below (HBv.out.mono HBW.out.size) hlo), gc, 4, rfl, ?_⟩
                    exact ⟨rfl, .inr ⟨gc, 4, #[.int .i64 (-wd), .int .i64 (-hd), .int .i64 wd, .int .i64 (-hd), .int .i64 wd, .int .i64 hd, .int .i64 (-wd), .int .i64 hd], rfl, hgw, set13_ne HGX.out hgx, Nat.le_refl _, by unfold maxLen; omega, rfl, rfl⟩⟩
end Go.Proofs.Ytnidcmhfbkdioaa
