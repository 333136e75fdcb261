/-
  Lemmas for the walk, merged (Ep Eq Er Es Et). No condition but those in each statement.
-/
import Derived.Test.YtnidcmhfbkdioaaSz41
import Derived.Test.YtnidcmhfbkdioaaSz18
namespace Go.Proofs.Ytnidcmhfbkdioaa
/-! ### Ep -/
open Go.RowKit
set_option maxRecDepth 100000
/-- Where place, motion and shape stand in a game's kinds. -/
theorem mapF_N (n : Nat) (hn : n < 8) : mapF (kindsN n) = ((-1, -1, -1), 0) ∨ ∃ K : Nat, mapF (kindsN n) = (((K : Int), ((K + 1 : Nat) : Int), ((K + 2 : Nat) : Int)), 0) ∧ (kindsN n)[K]? = some (kn_p, kf_p) ∧ (kindsN n)[K + 1]? = some (kn_o, kf_o) ∧ (kindsN n)[K + 2]? = some (kn_h, kf_h) := by
  rcases (by omega : n = 0 ∨ n = 1 ∨ n = 2 ∨ n = 3 ∨ n = 4 ∨ n = 5 ∨ n = 6 ∨ n = 7) with rfl | rfl | rfl | rfl | rfl | rfl | rfl | rfl
  · exact .inl (by decide +kernel)
  · exact .inl (by decide +kernel)
  · exact .inl (by decide +kernel)
  · exact .inl (by decide +kernel)
  · exact .inr ⟨1, by decide +kernel, by decide +kernel, by decide +kernel, by decide +kernel⟩
  · exact .inr ⟨2, by decide +kernel, by decide +kernel, by decide +kernel, by decide +kernel⟩
  · exact .inr ⟨2, by decide +kernel, by decide +kernel, by decide +kernel, by decide +kernel⟩
  · exact .inr ⟨3, by decide +kernel, by decide +kernel, by decide +kernel, by decide +kernel⟩
theorem near_at {f : Fd} {lo hi : Int} (h0 : fieldF f = 0) (h1 : f.low = lo) (h2 : highF f = hi) (v : Int) : nearF f v = max lo (min v hi) := by
  unfold nearF
  rw [if_pos h0, h1, h2]
/-- What a scene reads of an item. -/
def cvAt (l : List Cv) (k : Int) : Option (List Int) := (l.find? fun c => decide (c.1 = k)).map Prod.snd
def bodyP (m0 m1 m2 : Int) (l : List Cv) : Option Bo :=
  match cvAt l m0, cvAt l m2 with
  | some p, some s => match cvAt l m1 with
    | some v => if atI s 2 < 1 then some (bo0 p s) else some (bo1 p s v)
    | none => some (bo0 p s)
  | _, _ => none
theorem cvAt_cm (l : List Cm) (k : Int) : cvAt (l.map Cm.p) k = (cmAt l k).map Cm.vals := by
  induction l with
  | nil => rfl
  | cons a l ih =>
    unfold cvAt cmAt at ih ⊢
    rw [List.map_cons, List.find?_cons, List.find?_cons]
    by_cases h : a.k = k
    · have h1 : decide ((Cm.p a).1 = k) = true := decide_eq_true h
      have h2 : decide (a.k = k) = true := decide_eq_true h
      rw [h1, h2]
      rfl
    · have h1 : decide ((Cm.p a).1 = k) = false := decide_eq_false h
      have h2 : decide (a.k = k) = false := decide_eq_false h
      rw [h1, h2]
      exact ih
theorem bodyF_p (m0 m1 m2 : Int) (l : List Cm) : bodyF m0 m1 m2 l = bodyP m0 m1 m2 (l.map Cm.p) := by
  unfold bodyF bodyP
  rw [cvAt_cm, cvAt_cm, cvAt_cm]
  cases cmAt l m0 <;> cases cmAt l m2 <;> cases cmAt l m1 <;> rfl
theorem cvAt_upd (l : List Cv) (m k : Int) (fv : List Int) : cvAt (l.map (updC m fv)) k = if k = m then (cvAt l k).map fun _ => fv else cvAt l k := by
  induction l with
  | nil => by_cases h : k = m <;> simp [cvAt, h]
  | cons a l ih =>
    unfold cvAt at ih ⊢
    rw [List.map_cons, List.find?_cons, List.find?_cons]
    have hk : (updC m fv a).1 = a.1 := by
      unfold updC
      by_cases e : a.1 = m
      · rw [if_pos e]; exact e.symm
      · rw [if_neg e]
    rw [hk]
    by_cases h : a.1 = k
    · have h1 : decide (a.1 = k) = true := decide_eq_true h
      rw [h1]
      by_cases e : k = m
      · rw [if_pos e]
        have h2 : updC m fv a = (m, fv) := by unfold updC; rw [if_pos (by rw [h, e])]
        simp [h2]
      · rw [if_neg e]
        have h2 : updC m fv a = a := by unfold updC; rw [if_neg (by rw [h]; exact e)]
        simp [h2]
    · have h1 : decide (a.1 = k) = false := decide_eq_false h
      rw [h1]
      exact ih
theorem upd_same {l : List Cv} {m : Int} {fv : List Int} (h : ∀ c ∈ l, c.1 = m → c.2 = fv) : l.map (updC m fv) = l := by
  induction l with
  | nil => rfl
  | cons a l ih =>
    rw [List.map_cons, ih fun c hc => h c (List.mem_cons_of_mem _ hc)]
    congr 1
    unfold updC
    split
    · next e =>
      have h1 := h a List.mem_cons_self e
      exact Prod.ext e.symm h1.symm
    · rfl
theorem wi_id {n lo hi : Int} (h1 : lo ≤ n) (h2 : n ≤ hi) : wiF n lo hi = n := by unfold wiF; rw [if_neg (by omega), if_neg (by omega)]
theorem holdK_near {d : Kp2} {v : List Int} (h : holdK d v = true) : v.length = d.2.length ∧ ∀ i f, d.2[i]? = some f → nearF f (v.getD i 0) = v.getD i 0 := by
  obtain ⟨_, h2, h3⟩ := holdK_iff.1 h
  exact ⟨h2, h3⟩
theorem n_x (f : Fd) (v : Int) (h : f = ⟨⟨#[120]⟩, 26, (-33554432)⟩ ∨ f = ⟨⟨#[121]⟩, 26, (-33554432)⟩) : nearF f v = max (-33554432) (min v 33554431) := by
  rcases h with rfl | rfl <;> exact near_at (by decide +kernel) rfl (by decide +kernel) v
theorem n_a (v : Int) : nearF ⟨⟨#[97, 110, 103]⟩, 16, 0⟩ v = max 0 (min v 65535) := near_at (by decide +kernel) rfl (by decide +kernel) v
theorem n_v (f : Fd) (v : Int) (h : f = ⟨⟨#[118, 120]⟩, 22, (-2097152)⟩ ∨ f = ⟨⟨#[118, 121]⟩, 22, (-2097152)⟩) : nearF f v = max (-2097152) (min v 2097151) := by
  rcases h with rfl | rfl <;> exact near_at (by decide +kernel) rfl (by decide +kernel) v
theorem n_s (v : Int) : nearF ⟨⟨#[115, 112, 105, 110]⟩, 18, (-131072)⟩ v = max (-131072) (min v 131071) := near_at (by decide +kernel) rfl (by decide +kernel) v
theorem n_c (v : Int) : nearF ⟨⟨#[99, 97, 108, 109]⟩, 12, 0⟩ v = max 0 (min v 4095) := near_at (by decide +kernel) rfl (by decide +kernel) v
theorem plF_eq (b : By) : plF (kn_p, kf_p) b = [max (-33554432) (min b.px 33554431), max (-33554432) (min b.py 33554431), max 0 (min b.ang 65535)] := by
  unfold plF fitF
  rw [if_neg (by decide +kernel), if_neg (by simp [kf_p])]
  show List.zipWith nearF kf_p [b.px, b.py, b.ang] = _
  simp only [kf_p, List.zipWith_cons_cons, List.zipWith_nil_left]
  rw [n_x _ _ (.inl rfl), n_x _ _ (.inr rfl), n_a]
theorem moF_eq (b : By) : moF (kn_o, kf_o) b = [max (-2097152) (min b.vx 2097151), max (-2097152) (min b.vy 2097151), max (-131072) (min b.spin 131071), max 0 (min (calmV b) 4095)] := by
  unfold moF fitF
  rw [if_neg (by decide +kernel), if_neg (by simp [kf_o])]
  show List.zipWith nearF kf_o [b.vx, b.vy, b.spin, calmV b] = _
  simp only [kf_o, List.zipWith_cons_cons, List.zipWith_nil_left]
  rw [n_v _ _ (.inl rfl), n_v _ _ (.inr rfl), n_s, n_c]
/-- A body's numbers out of a body's components. -/
def Bo.by_ (b : Bo) (A : Option Addr) (n c : Nat) : By := ⟨b.px, b.py, b.vx, b.vy, b.ang, b.spin, b.mass, b.inr, b.bou, b.rub, A, n, c, b.asl, b.calm⟩
theorem plF_id {p0 p1 p2 : Int} {b : Bo} {A : Option Addr} {n c : Nat} (hx : b.px = wiF p0 (-58982400) 58982400) (hy : b.py = wiF p1 (-58982400) 58982400) (ha : b.ang = p2 % 65536)
    (h0 : -33554432 ≤ p0 ∧ p0 ≤ 33554431) (h1 : -33554432 ≤ p1 ∧ p1 ≤ 33554431) (h2 : 0 ≤ p2 ∧ p2 ≤ 65535) : plF (kn_p, kf_p) (b.by_ A n c) = [p0, p1, p2] := by
  rw [plF_eq]
  show [max (-33554432) (min b.px 33554431), max (-33554432) (min b.py 33554431), max 0 (min b.ang 65535)] = _
  rw [hx, hy, ha, wi_id (by omega) (by omega), wi_id (by omega) (by omega)]
  congr 1
  · omega
  · congr 1
    · omega
    · congr 1
      omega
theorem moF_again {p s : List Int} {v0 v1 v2 v3 : Int} {A A' : Option Addr} {n c n' c' : Nat} (h0 : -2097152 ≤ v0 ∧ v0 ≤ 2097151) (h1 : -2097152 ≤ v1 ∧ v1 ≤ 2097151) (h2 : -131072 ≤ v2 ∧ v2 ≤ 131071) :
    moF (kn_o, kf_o) ((bo1 p s (moF (kn_o, kf_o) ((bo1 p s [v0, v1, v2, v3]).by_ A n c))).by_ A' n' c') = moF (kn_o, kf_o) ((bo1 p s [v0, v1, v2, v3]).by_ A n c) := by
  obtain ⟨k, hk⟩ : ∃ z, z = wiF (v3.tdiv 2) 0 1000 := ⟨_, rfl⟩
  have hkr : 0 ≤ k ∧ k ≤ 1000 := by rw [hk]; exact wiF_range (by decide)
  obtain ⟨a, ha⟩ : ∃ z, z = decide (0 < v3 ∧ v3.tmod 2 = 1 ∧ wiF v0 (-268435456) 268435456 = 0 ∧ wiF v1 (-268435456) 268435456 = 0 ∧ wiF v2 (-16777216) 16777216 = 0) := ⟨_, rfl⟩
  have hm : moF (kn_o, kf_o) ((bo1 p s [v0, v1, v2, v3]).by_ A n c) = [v0, v1, v2, 2 * k + if a then 1 else 0] := by
    rw [moF_eq]
    show [max (-2097152) (min (wiF v0 (-268435456) 268435456) 2097151), max (-2097152) (min (wiF v1 (-268435456) 268435456) 2097151), max (-131072) (min (wiF v2 (-16777216) 16777216) 131071), max 0 (min (2 * wiF (wiF (v3.tdiv 2) 0 1000) 0 1000 + if decide (0 < v3 ∧ v3.tmod 2 = 1 ∧ wiF v0 (-268435456) 268435456 = 0 ∧ wiF v1 (-268435456) 268435456 = 0 ∧ wiF v2 (-16777216) 16777216 = 0) = true then 1 else 0) 4095)] = _
    rw [← ha, ← hk, wi_id (by omega) (by omega), wi_id (by omega) (by omega), wi_id (by omega) (by omega), wi_id (n := k) (by omega) (by omega)]
    congr 1
    · omega
    · congr 1
      · omega
      · congr 1
        · omega
        · congr 1
          cases a <;> simp <;> omega
  rw [hm]
  rw [moF_eq]
  obtain ⟨q, hq⟩ : ∃ z, z = 2 * k + (if a then (1 : Int) else 0) := ⟨_, rfl⟩
  rw [← hq]
  have hq2 : q.tdiv 2 = k := by
    rw [hq, Int.tdiv_eq_ediv_of_nonneg (by cases a <;> simp <;> omega)]
    cases a <;> simp <;> omega
  show [max (-2097152) (min (wiF v0 (-268435456) 268435456) 2097151), max (-2097152) (min (wiF v1 (-268435456) 268435456) 2097151), max (-131072) (min (wiF v2 (-16777216) 16777216) 131071), max 0 (min (2 * wiF (wiF (q.tdiv 2) 0 1000) 0 1000 + if decide (0 < q ∧ q.tmod 2 = 1 ∧ wiF v0 (-268435456) 268435456 = 0 ∧ wiF v1 (-268435456) 268435456 = 0 ∧ wiF v2 (-16777216) 16777216 = 0) = true then 1 else 0) 4095)] = _
  have hd : decide (0 < q ∧ q.tmod 2 = 1 ∧ wiF v0 (-268435456) 268435456 = 0 ∧ wiF v1 (-268435456) 268435456 = 0 ∧ wiF v2 (-16777216) 16777216 = 0) = a := by
    have hmod : q.tmod 2 = if a then 1 else 0 := by
      rw [Int.tmod_eq_emod_of_nonneg (by rw [hq]; cases a <;> simp <;> omega), hq]
      cases a <;> simp <;> omega
    rw [hmod]
    cases a with
    | false => simp
    | true =>
      have h4 := of_decide_eq_true ha.symm
      refine decide_eq_true ⟨by rw [hq]; simp; omega, rfl, h4.2.2⟩
  rw [hd, hq2, wi_id (by omega) (by omega), wi_id (by omega) (by omega), wi_id (by omega) (by omega), wi_id (n := k) (by omega) (by omega), wi_id (n := k) (by omega) (by omega), ← hq]
  congr 1
  · omega
  · congr 1
    · omega
    · congr 1
      · omega
      · congr 1
        rw [hq]
        cases a <;> simp <;> omega
/-! ### Eq -/
theorem near_idem (f : Fd) (v : Int) : nearF f (nearF f v) = nearF f v := by
  unfold nearF
  by_cases h : fieldF f = 0
  · rw [if_pos h, if_pos h]
    obtain ⟨h1, h2, _, _⟩ := field_ok h
    have hp : (1 : Int) ≤ 2 ^ f.bits.toNat := Int.pow_pos (by omega)
    have hh : f.low ≤ highF f := by unfold highF; rw [if_pos h]; omega
    omega
  · rw [if_neg h, if_neg h]
theorem fit_hold {d : Kp2} {vs : List Int} (h1 : oneF d.1 d.2 = 0) (h2 : vs.length = d.2.length) : holdK d (fitF d.1 d.2 vs).1 = true := by
  unfold fitF
  rw [if_neg (by simp [h1]), if_neg (by simp [h2])]
  refine holdK_iff.2 ⟨h1, by simp [zipF, h2], fun i f hf => ?_⟩
  have hi : i < vs.length := by rw [h2]; exact (List.getElem?_eq_some_iff.1 hf).1
  have e : (zipF d.2 vs).getD i 0 = nearF f vs[i] := by
    rw [List.getD_eq_getElem?_getD, zipF_at hf (List.getElem?_eq_getElem hi)]
    rfl
  rw [e]
  exact near_idem _ _
theorem mem_upd {l : List Cv} {m0 m1 : Int} {fp fm : List Int} (hne : m0 ≠ m1) {c : Cv} (hc : c ∈ (l.map (updC m0 fp)).map (updC m1 fm)) : (c.1 = m0 → c.2 = fp) ∧ (c.1 = m1 → c.2 = fm) ∧ ∃ a ∈ l, a.1 = c.1 ∧ (c.1 ≠ m0 → c.1 ≠ m1 → c = a) := by
  obtain ⟨c1, hc1, e1⟩ := List.mem_map.1 hc
  obtain ⟨c0, hc0, e0⟩ := List.mem_map.1 hc1
  unfold updC at e0 e1
  by_cases h0 : c0.1 = m0
  · rw [if_pos h0] at e0
    subst e0
    rw [if_neg hne] at e1
    subst e1
    exact ⟨fun _ => rfl, fun h => absurd h hne, c0, hc0, h0, fun h => absurd rfl h⟩
  · rw [if_neg h0] at e0
    subst e0
    by_cases h1 : c0.1 = m1
    · rw [if_pos h1] at e1
      subst e1
      exact ⟨fun h => absurd h.symm hne, fun _ => rfl, c0, hc0, h1, fun _ h => absurd rfl h⟩
    · rw [if_neg h1] at e1
      subst e1
      exact ⟨fun h => absurd h h0, fun h => absurd h h1, c0, hc0, rfl, fun _ _ => rfl⟩
theorem cvAt_mem {l : List Cv} {k : Int} {v : List Int} (h : cvAt l k = some v) : (k, v) ∈ l := by
  unfold cvAt at h
  obtain ⟨c, h1, h2⟩ := Option.map_eq_some_iff.1 h
  have h3 := List.mem_of_find?_eq_some h1
  have h4 : c.1 = k := by simpa using List.find?_some h1
  have e : c = (k, v) := Prod.ext h4 h2
  rw [← e]
  exact h3
theorem VCs.upd {ks : List Kp2} {l : List Cv} {K : Nat} {d : Kp2} {fv : List Int} (h : VCs holdK ks l) (hd : ks[K]? = some d) (hf : holdK d fv = true) : VCs holdK ks (l.map (updC (K : Int) fv)) := by
  have hk : ∀ c : Cv, (updC (K : Int) fv c).1 = c.1 := fun c => by
    unfold updC
    by_cases e : c.1 = (K : Int)
    · rw [if_pos e]; exact e.symm
    · rw [if_neg e]
  refine ⟨List.pairwise_map.2 (h.sorted.imp fun hab => by rw [hk, hk]; exact hab), fun c hc => ?_⟩
  obtain ⟨c0, hc0, rfl⟩ := List.mem_map.1 hc
  obtain ⟨k, d', e1, e2, e3⟩ := h.ok c0 hc0
  by_cases e : c0.1 = (K : Int)
  · refine ⟨K, d, by rw [hk, e], hd, ?_⟩
    unfold updC
    rw [if_pos e]
    exact hf
  · refine ⟨k, d', by rw [hk, e1], e2, ?_⟩
    unfold updC
    rw [if_neg e]
    exact e3
/-- A body that was written is written again as it is. -/
theorem again_item {ks : List Kp2} {l : List Cv} {K : Nat} {b : Bo} {A : Option Addr} {n c : Nat} (hv : VCs holdK ks l) (h0 : ks[K]? = some (kn_p, kf_p)) (h1 : ks[K + 1]? = some (kn_o, kf_o)) (hb : bodyP (K : Int) ((K + 1 : Nat) : Int) ((K + 2 : Nat) : Int) l = some b) :
    ∀ b', bodyP (K : Int) ((K + 1 : Nat) : Int) ((K + 2 : Nat) : Int) ((l.map (updC (K : Int) (plF (kn_p, kf_p) (b.by_ A n c)))).map (updC ((K + 1 : Nat) : Int) (moF (kn_o, kf_o) (b.by_ A n c)))) = some b' → ∀ A' n' c',
      plF (kn_p, kf_p) (b'.by_ A' n' c') = plF (kn_p, kf_p) (b.by_ A n c) ∧ ((∃ v, cvAt l ((K + 1 : Nat) : Int) = some v) → moF (kn_o, kf_o) (b'.by_ A' n' c') = moF (kn_o, kf_o) (b.by_ A n c)) := by
  intro b' hb' A' n' c'
  have hne : (K : Int) ≠ ((K + 1 : Nat) : Int) := by omega
  have hne2 : ((K + 2 : Nat) : Int) ≠ (K : Int) := by omega
  have hne3 : ((K + 2 : Nat) : Int) ≠ ((K + 1 : Nat) : Int) := by omega
  unfold bodyP at hb hb'
  rw [cvAt_upd, cvAt_upd, cvAt_upd, cvAt_upd, cvAt_upd, cvAt_upd, if_neg hne, if_pos rfl, if_neg hne3, if_neg hne2, if_pos rfl, if_neg (Ne.symm hne)] at hb'
  cases hp : cvAt l (K : Int) with
  | none => rw [hp] at hb; cases hb
  | some p =>
    cases hs : cvAt l ((K + 2 : Nat) : Int) with
    | none => rw [hp, hs] at hb; cases hb
    | some s =>
      rw [hp, hs] at hb hb'
      obtain ⟨k, d, e1, e2, e3⟩ := hv.ok _ (cvAt_mem hp)
      have ek : K = k := by omega
      subst ek
      rw [h0] at e2
      injection e2 with e2
      subst e2
      obtain ⟨hl, hn⟩ := holdK_near e3
      obtain ⟨p0, p1, p2, rfl⟩ : ∃ a b c, p = [a, b, c] := by
        match p, hl with
        | [a, b, c], _ => exact ⟨a, b, c, rfl⟩
      have n0 := hn 0 _ rfl
      have n1 := hn 1 _ rfl
      have n2 := hn 2 _ rfl
      rw [n_x _ _ (.inl rfl)] at n0
      rw [n_x _ _ (.inr rfl)] at n1
      rw [n_a] at n2
      have r0 : -33554432 ≤ p0 ∧ p0 ≤ 33554431 := by have : max (-33554432) (min p0 33554431) = p0 := n0; omega
      have r1 : -33554432 ≤ p1 ∧ p1 ≤ 33554431 := by have : max (-33554432) (min p1 33554431) = p1 := n1; omega
      have r2 : 0 ≤ p2 ∧ p2 ≤ 65535 := by have : max 0 (min p2 65535) = p2 := n2; omega
      have hpl : ∀ v, plF (kn_p, kf_p) ((bo1 [p0, p1, p2] s v).by_ A n c) = [p0, p1, p2] := fun v => plF_id rfl rfl rfl r0 r1 r2
      have hpl0 : plF (kn_p, kf_p) ((bo0 [p0, p1, p2] s).by_ A n c) = [p0, p1, p2] := plF_id rfl rfl rfl r0 r1 r2
      have hpl' : ∀ v, plF (kn_p, kf_p) ((bo1 [p0, p1, p2] s v).by_ A' n' c') = [p0, p1, p2] := fun v => plF_id rfl rfl rfl r0 r1 r2
      have hpl0' : plF (kn_p, kf_p) ((bo0 [p0, p1, p2] s).by_ A' n' c') = [p0, p1, p2] := plF_id rfl rfl rfl r0 r1 r2
      cases hm : cvAt l ((K + 1 : Nat) : Int) with
      | none =>
        rw [hm] at hb hb'
        injection hb with hb
        subst hb
        simp only [Option.map_some, Option.map_none] at hb'
        rw [hpl0] at hb'
        injection hb' with hb'
        subst hb'
        exact ⟨by rw [hpl0, hpl0'], fun ⟨v, h⟩ => by cases h⟩
      | some v =>
        rw [hm] at hb hb'
        simp only [Option.map_some] at hb'
        by_cases hst : atI s 2 < 1
        · dsimp only at hb
          rw [if_pos hst] at hb
          injection hb with hb
          subst hb
          rw [if_pos hst, hpl0] at hb'
          injection hb' with hb'
          subst hb'
          exact ⟨by rw [hpl0, hpl0'], fun _ => by rw [moF_eq, moF_eq]; rfl⟩
        · dsimp only at hb
          rw [if_neg hst] at hb
          injection hb with hb
          subst hb
          rw [if_neg hst, hpl] at hb'
          injection hb' with hb'
          subst hb'
          refine ⟨by rw [hpl, hpl'], fun _ => ?_⟩
          obtain ⟨k2, d2, f1, f2, f3⟩ := hv.ok _ (cvAt_mem hm)
          have ek2 : K + 1 = k2 := by omega
          subst ek2
          rw [h1] at f2
          injection f2 with f2
          subst f2
          obtain ⟨gl, gn⟩ := holdK_near f3
          obtain ⟨v0, v1, v2, v3, rfl⟩ : ∃ a b c d, v = [a, b, c, d] := by
            match v, gl with
            | [a, b, c, d], _ => exact ⟨a, b, c, d, rfl⟩
          have g0 := gn 0 _ rfl
          have g1 := gn 1 _ rfl
          have g2 := gn 2 _ rfl
          rw [n_v _ _ (.inl rfl)] at g0
          rw [n_v _ _ (.inr rfl)] at g1
          rw [n_s] at g2
          exact moF_again (by have : max (-2097152) (min v0 2097151) = v0 := g0; omega) (by have : max (-2097152) (min v1 2097151) = v1 := g1; omega) (by have : max (-131072) (min v2 131071) = v2 := g2; omega)
/-! ### Er -/
/-- The bodies of a world's items, each with its entity. -/
structure RsOf (m0 m1 m2 : Int) (l : List Iv) (rs : List ((Int × Int) × By)) : Prop where
  of : ∀ r ∈ rs, ∃ x ∈ l, ∃ (b : Bo) (A : Option Addr) (n c : Nat), bodyP m0 m1 m2 x.2 = some b ∧ r.1 = x.1 ∧ r.2 = b.by_ A n c
  has : ∀ x ∈ l, ∀ b, bodyP m0 m1 m2 x.2 = some b → ∃ r ∈ rs, r.1 = x.1
  apart : rs.Pairwise fun a b => a.1 ≠ b.1
theorem findP_at {l : List Iv} (hs : l.Pairwise fun a b => a.1.1 < b.1.1) {i : Nat} {x : Iv} (hi : l[i]? = some x) : findP l x.1.1 x.1.2 = i := by
  have hil := (List.getElem?_eq_some_iff.1 hi).1
  rw [findP_ents]
  refine idxF_hit (x := x.1) (by rw [List.getElem?_map, hi]; rfl) (by simp) fun j y hj hy => decide_eq_false fun hh => ?_
  rw [List.getElem?_map] at hy
  obtain ⟨z, hz, rfl⟩ := Option.map_eq_some_iff.1 hy
  have hjl := (List.getElem?_eq_some_iff.1 hz).1
  have h1 := List.pairwise_iff_getElem.1 hs j i hjl hil hj
  rw [(List.getElem?_eq_some_iff.1 hz).2, (List.getElem?_eq_some_iff.1 hi).2] at h1
  omega
theorem sorted_ents {l l' : List Iv} (h : l'.map Prod.fst = l.map Prod.fst) (hs : l.Pairwise fun a b => a.1.1 < b.1.1) : l'.Pairwise fun a b => a.1.1 < b.1.1 := by
  have h1 : (l.map Prod.fst).Pairwise fun a b : Int × Int => a.1 < b.1 := List.pairwise_map.2 hs
  rw [← h] at h1
  exact (List.pairwise_map (f := Prod.fst) (R := fun a b : Int × Int => a.1 < b.1)).1 h1
/-- Where the writing stands behind the rounds `done`. -/
def Wr (m0 m1 : Int) (d0 d1 : ByteArray × List Fd) (l l' : List Iv) (done : List ((Int × Int) × By)) : Prop :=
  l'.length = l.length ∧ ∀ (i : Nat) (x0 : Iv), l[i]? = some x0 → ∃ x, l'[i]? = some x ∧ x.1 = x0.1 ∧ ((x = x0 ∧ ∀ r ∈ done, r.1 ≠ x0.1) ∨ ∃ r ∈ done, r.1 = x0.1 ∧ x = bwUp m0 m1 d0 d1 r.2 x0)
theorem Wr.ents {m0 m1 : Int} {d0 d1 : ByteArray × List Fd} {l l' : List Iv} {done : List ((Int × Int) × By)} (h : Wr m0 m1 d0 d1 l l' done) : l'.map Prod.fst = l.map Prod.fst := by
  apply List.ext_getElem?
  intro i
  rw [List.getElem?_map, List.getElem?_map]
  cases hi : l[i]? with
  | none =>
    have h1 : l'[i]? = none := List.getElem?_eq_none (by rw [h.1]; exact List.getElem?_eq_none_iff.1 hi)
    rw [h1]
  | some x0 =>
    obtain ⟨x, h1, h2, _⟩ := h.2 i x0 hi
    rw [h1]
    simp [h2]
theorem Wr.step {m0 m1 : Int} {d0 d1 : ByteArray × List Fd} {l l' : List Iv} {done : List ((Int × Int) × By)} {r : (Int × Int) × By} (h : Wr m0 m1 d0 d1 l l' done) (hs : l.Pairwise fun a b => a.1.1 < b.1.1) {x : Iv} (hx : x ∈ l) (hr : r.1 = x.1) (hn : ∀ r' ∈ done, r'.1 ≠ r.1) :
    Wr m0 m1 d0 d1 l (bwOne m0 m1 d0 d1 l' r) (done ++ [r]) := by
  obtain ⟨j, hj⟩ := List.getElem?_of_mem hx
  obtain ⟨z, hz, hz1, hz2⟩ := h.2 j x hj
  have hs' := sorted_ents h.ents hs
  have hf : findP l' r.1.1 r.1.2 = j := by
    rw [hr, ← hz1]
    exact findP_at hs' hz
  have hzx : z = x := by
    rcases hz2 with ⟨h1, _⟩ | ⟨r', h1, h2, _⟩
    · exact h1
    · exact absurd (h2.trans hr.symm) (hn r' h1)
  subst hzx
  have hjl := (List.getElem?_eq_some_iff.1 hz).1
  have e : bwOne m0 m1 d0 d1 l' r = l'.set j (bwUp m0 m1 d0 d1 r.2 z) := by
    unfold bwOne
    rw [hf]
    simp only [Int.toNat_natCast]
    rw [hz]
  rw [e]
  refine ⟨by rw [List.length_set]; exact h.1, fun i x0 hi => ?_⟩
  by_cases hij : i = j
  · subst hij
    rw [hj] at hi
    injection hi with hi
    subst hi
    exact ⟨_, List.getElem?_set_self hjl, rfl, .inr ⟨r, by simp, hr, rfl⟩⟩
  · obtain ⟨y, h1, h2, h3⟩ := h.2 i x0 hi
    refine ⟨y, by rw [List.getElem?_set_ne (Ne.symm hij)]; exact h1, h2, ?_⟩
    rcases h3 with ⟨h4, h5⟩ | ⟨r', h4, h5, h6⟩
    · refine .inl ⟨h4, fun r' hr' => ?_⟩
      rcases List.mem_append.1 hr' with hr' | hr'
      · exact h5 r' hr'
      · rw [show r' = r by simpa using hr']
        intro hh
        have e1 := findP_at hs hi
        have e2 := findP_at hs hj
        rw [← hh, hr] at e1
        rw [e1] at e2
        omega
    · exact .inr ⟨r', List.mem_append_left _ h4, h5, h6⟩
theorem Wr.all {m0 m1 m2 : Int} {d0 d1 : ByteArray × List Fd} {l : List Iv} (hs : l.Pairwise fun a b => a.1.1 < b.1.1) : ∀ (rs done : List ((Int × Int) × By)) (l' : List Iv), Wr m0 m1 d0 d1 l l' done → RsOf m0 m1 m2 l (done ++ rs) → Wr m0 m1 d0 d1 l (bwF m0 m1 d0 d1 l' rs) (done ++ rs)
  | [], done, l', h, _ => by rw [List.append_nil]; exact h
  | r :: rs, done, l', h, hR => by
    obtain ⟨x, hx, b, A, n, c, _, h2, _⟩ := hR.of r (by simp)
    have hn : ∀ r' ∈ done, r'.1 ≠ r.1 := fun r' hr' => (List.pairwise_append.1 hR.apart).2.2 r' hr' r (by simp)
    have h1 := Wr.all hs rs (done ++ [r]) _ (h.step hs hx h2 hn) (by simpa using hR)
    simpa [bwF] using h1
theorem Wr.start {m0 m1 : Int} {d0 d1 : ByteArray × List Fd} {l : List Iv} : Wr m0 m1 d0 d1 l l [] := ⟨rfl, fun i x0 h => ⟨x0, h, rfl, .inl ⟨rfl, fun r hr => by cases hr⟩⟩⟩
theorem ent_inj {l : List Iv} (hs : l.Pairwise fun a b => a.1.1 < b.1.1) {x y : Iv} (hx : x ∈ l) (hy : y ∈ l) (h : x.1 = y.1) : x = y := by
  obtain ⟨i, hi⟩ := List.getElem?_of_mem hx
  obtain ⟨j, hj⟩ := List.getElem?_of_mem hy
  have e1 := findP_at hs hi
  have e2 := findP_at hs hj
  rw [h, e2] at e1
  have e3 : j = i := by omega
  subst e3
  rw [hi] at hj
  injection hj
theorem bwF_same {m0 m1 : Int} {d0 d1 : ByteArray × List Fd} {l : List Iv} (hs : l.Pairwise fun a b => a.1.1 < b.1.1) : ∀ rs : List ((Int × Int) × By), (∀ r ∈ rs, ∃ x ∈ l, r.1 = x.1 ∧ bwUp m0 m1 d0 d1 r.2 x = x) → bwF m0 m1 d0 d1 l rs = l
  | [], _ => rfl
  | r :: rs, h => by
    obtain ⟨x, hx, h1, h2⟩ := h r (by simp)
    obtain ⟨i, hi⟩ := List.getElem?_of_mem hx
    have e : bwOne m0 m1 d0 d1 l r = l := by
      unfold bwOne
      rw [h1, findP_at hs hi]
      simp only [Int.toNat_natCast]
      rw [hi]
      dsimp only
      rw [h2]
      exact List.set_getElem_self' hi
    have h3 := bwF_same hs rs fun r' hr' => h r' (List.mem_cons_of_mem _ hr')
    show bwF m0 m1 d0 d1 (bwOne m0 m1 d0 d1 l r) rs = l
    rw [e]
    exact h3
/-! ### Es -/
theorem cvAt_of {l : List Cv} {c : Cv} (h : c ∈ l) : ∃ v, cvAt l c.1 = some v := by
  unfold cvAt
  cases hf : l.find? fun a => decide (a.1 = c.1) with
  | none => exact absurd (List.find?_eq_none.1 hf c h) (by simp)
  | some a => exact ⟨a.2, rfl⟩
theorem bw_valid {ks : List Kp2} {x0 : Iv} {K : Nat} {b : By} (hv : VCs holdK ks x0.2) (h0 : ks[K]? = some (kn_p, kf_p)) (h1 : ks[K + 1]? = some (kn_o, kf_o)) : VCs holdK ks (bwUp (K : Int) ((K + 1 : Nat) : Int) (kn_p, kf_p) (kn_o, kf_o) b x0).2 := by
  have hp : holdK (kn_p, kf_p) (plF (kn_p, kf_p) b) = true := fit_hold (by decide +kernel) (by simp [kf_p])
  have hm : holdK (kn_o, kf_o) (moF (kn_o, kf_o) b) = true := fit_hold (by decide +kernel) (by simp [kf_o])
  exact (hv.upd h0 hp).upd h1 hm
theorem twice_main {ks : List Kp2} {l : List Iv} {K : Nat} {rs rs2 : List ((Int × Int) × By)} (hs : l.Pairwise fun a b => a.1.1 < b.1.1) (hv : ∀ x ∈ l, VCs holdK ks x.2) (h0 : ks[K]? = some (kn_p, kf_p)) (h1 : ks[K + 1]? = some (kn_o, kf_o))
    (hR : RsOf (K : Int) ((K + 1 : Nat) : Int) ((K + 2 : Nat) : Int) l rs) :
    (∀ x ∈ bwF (K : Int) ((K + 1 : Nat) : Int) (kn_p, kf_p) (kn_o, kf_o) l rs, VCs holdK ks x.2) ∧
    (RsOf (K : Int) ((K + 1 : Nat) : Int) ((K + 2 : Nat) : Int) (bwF (K : Int) ((K + 1 : Nat) : Int) (kn_p, kf_p) (kn_o, kf_o) l rs) rs2 →
      bwF (K : Int) ((K + 1 : Nat) : Int) (kn_p, kf_p) (kn_o, kf_o) (bwF (K : Int) ((K + 1 : Nat) : Int) (kn_p, kf_p) (kn_o, kf_o) l rs) rs2 = bwF (K : Int) ((K + 1 : Nat) : Int) (kn_p, kf_p) (kn_o, kf_o) l rs) := by
  have hW := Wr.all (d0 := (kn_p, kf_p)) (d1 := (kn_o, kf_o)) hs rs [] l Wr.start hR
  rw [List.nil_append] at hW
  have hne : (K : Int) ≠ ((K + 1 : Nat) : Int) := by omega
  have hback : ∀ x ∈ bwF (K : Int) ((K + 1 : Nat) : Int) (kn_p, kf_p) (kn_o, kf_o) l rs, ∃ x0 ∈ l, x.1 = x0.1 ∧ ((x = x0 ∧ ∀ r ∈ rs, r.1 ≠ x0.1) ∨ ∃ r ∈ rs, r.1 = x0.1 ∧ x = bwUp (K : Int) ((K + 1 : Nat) : Int) (kn_p, kf_p) (kn_o, kf_o) r.2 x0) := fun x hx => by
    obtain ⟨i, hi⟩ := List.getElem?_of_mem hx
    have hil : i < l.length := by rw [← hW.1]; exact (List.getElem?_eq_some_iff.1 hi).1
    obtain ⟨x', e1, e2, e3⟩ := hW.2 i _ (List.getElem?_eq_getElem hil)
    rw [hi] at e1
    injection e1 with e1
    subst e1
    exact ⟨_, List.getElem_mem hil, e2, e3⟩
  refine ⟨fun x hx => ?_, fun hR2 => ?_⟩
  · obtain ⟨x0, hx0, _, ⟨h, _⟩ | ⟨r, _, _, h⟩⟩ := hback x hx
    · rw [h]; exact hv x0 hx0
    · rw [h]; exact bw_valid (hv x0 hx0) h0 h1
  · refine bwF_same (sorted_ents hW.ents hs) rs2 fun r hr => ?_
    obtain ⟨x, hx, b', A', n', c', hb', hr1, hr2⟩ := hR2.of r hr
    refine ⟨x, hx, hr1, ?_⟩
    obtain ⟨x0, hx0, hxe, hcase⟩ := hback x hx
    rcases hcase with ⟨h, hno⟩ | ⟨r', hr', hre, h⟩
    · subst h
      obtain ⟨r'', h2, h3⟩ := hR.has x hx0 b' hb'
      exact absurd h3 (hno r'' h2)
    · obtain ⟨x00, hx00, b, A, n, c, hb, g1, g2⟩ := hR.of r' hr'
      have e : x00 = x0 := ent_inj hs hx00 hx0 (g1.symm.trans hre)
      subst e
      rw [g2] at h
      have hag := again_item (A := A) (n := n) (c := c) (hv x00 hx00) h0 h1 hb b' (by
        have : x.2 = (x00.2.map (updC (K : Int) (plF (kn_p, kf_p) (b.by_ A n c)))).map (updC ((K + 1 : Nat) : Int) (moF (kn_o, kf_o) (b.by_ A n c))) := by rw [h]; rfl
        rw [← this]
        exact hb') A' n' c'
      have hx2 : x.2 = (x00.2.map (updC (K : Int) (plF (kn_p, kf_p) (b.by_ A n c)))).map (updC ((K + 1 : Nat) : Int) (moF (kn_o, kf_o) (b.by_ A n c))) := by rw [h]; rfl
      have s1 : x.2.map (updC (K : Int) (plF (kn_p, kf_p) (b'.by_ A' n' c'))) = x.2 := upd_same fun cc hcc hk => by
        rw [hag.1]
        rw [hx2] at hcc
        exact (mem_upd hne hcc).1 hk
      have s2 : x.2.map (updC ((K + 1 : Nat) : Int) (moF (kn_o, kf_o) (b'.by_ A' n' c'))) = x.2 := upd_same fun cc hcc hk => by
        rw [hx2] at hcc
        obtain ⟨_, m2, a, ha, hae, _⟩ := mem_upd hne hcc
        obtain ⟨v, hvv⟩ := cvAt_of ha
        rw [hag.2 ⟨v, by rw [← hk, ← hae]; exact hvv⟩]
        exact m2 hk
      rw [hr2]
      show (x.1, (x.2.map (updC (K : Int) (plF (kn_p, kf_p) (b'.by_ A' n' c')))).map (updC ((K + 1 : Nat) : Int) (moF (kn_o, kf_o) (b'.by_ A' n' c')))) = x
      rw [s1, s2]
/-- The bodies that a scene makes, with their entities. -/
theorem rsOf_scene {its : List It} {bl : List Bm} {m0 m1 m2 : Int} (hb : bl.map Bm.b = (bodiesF m0 m1 m2 its).map Prod.fst) (hs : ((bodiesF m0 m1 m2 its).map Prod.snd).Pairwise fun a b => a.1 < b.1) :
    RsOf m0 m1 m2 (its.map It.p) (((bodiesF m0 m1 m2 its).map Prod.snd).zip (bl.map Bm.by_)) := by
  have hlen : bl.length = (bodiesF m0 m1 m2 its).length := by have := congrArg List.length hb; simpa using this
  refine ⟨fun r hr => ?_, fun x hx b hxb => ?_, ?_⟩
  · obtain ⟨i, hi⟩ := List.getElem?_of_mem hr
    rw [List.getElem?_zip_eq_some] at hi
    obtain ⟨h1, h2⟩ := hi
    rw [List.getElem?_map] at h1 h2
    obtain ⟨q, hq, hq2⟩ := Option.map_eq_some_iff.1 h1
    obtain ⟨bm, hbm, hbm2⟩ := Option.map_eq_some_iff.1 h2
    have h3 := congrArg (fun z => z[i]?) hb
    simp only [List.getElem?_map, hbm, hq, Option.map_some] at h3
    injection h3 with h3
    have hqm := List.mem_of_getElem? hq
    unfold bodiesF at hqm
    obtain ⟨x, hx, hxb⟩ := List.mem_filterMap.1 hqm
    obtain ⟨b, hb', rfl⟩ := Option.map_eq_some_iff.1 hxb
    refine ⟨x.p, List.mem_map_of_mem hx, b, some ⟨bm.g, 0, none⟩, 4, bm.c, by rw [← hb', bodyF_p]; rfl, hq2.symm, ?_⟩
    rw [← hbm2]
    have h4 : bm.b = b := h3
    rw [← h4]
    rfl
  · obtain ⟨x0, hx0, rfl⟩ := List.mem_map.1 hx
    have hbf : bodyF m0 m1 m2 x0.cms = some b := by rw [bodyF_p]; exact hxb
    have hmem : (b, (x0.e, x0.g)) ∈ bodiesF m0 m1 m2 its := by
      unfold bodiesF
      exact List.mem_filterMap.2 ⟨x0, hx0, by rw [hbf]; rfl⟩
    obtain ⟨i, hi⟩ := List.getElem?_of_mem hmem
    have hil := (List.getElem?_eq_some_iff.1 hi).1
    have hbl : i < bl.length := by rw [hlen]; exact hil
    refine ⟨((x0.e, x0.g), (bl[i]).by_), ?_, rfl⟩
    refine List.mem_of_getElem? (i := i) ?_
    rw [List.getElem?_zip_eq_some]
    exact ⟨by rw [List.getElem?_map, hi]; rfl, by rw [List.getElem?_map, List.getElem?_eq_getElem hbl]; rfl⟩
  · have h1 : (((bodiesF m0 m1 m2 its).map Prod.snd).zip (bl.map Bm.by_)).map Prod.fst = (bodiesF m0 m1 m2 its).map Prod.snd := by
      rw [List.map_fst_zip]
      simp [hlen]
    have h2 := hs
    rw [← h1] at h2
    exact (List.pairwise_map.1 h2).imp fun hab heq => by rw [heq] at hab; omega
/-! ### Et -/
/-- Further writings change nothing. -/
def Still (m0 m1 m2 : Int) (d0 d1 : ByteArray × List Fd) (l : List Iv) : Prop := ∀ rs, RsOf m0 m1 m2 l rs → bwF m0 m1 d0 d1 l rs = l
theorem rs_none {ks : List Kp2} {l : List Iv} {rs : List ((Int × Int) × By)} {m1 m2 : Int} (hv : ∀ x ∈ l, VCs holdK ks x.2) (h : RsOf (-1) m1 m2 l rs) : rs = [] := by
  cases rs with
  | nil => rfl
  | cons r rs =>
    obtain ⟨x, hx, b, A, n, c, hb, _⟩ := h.of r (by simp)
    unfold bodyP at hb
    cases hc : cvAt x.2 (-1) with
    | none => rw [hc] at hb; cases hb
    | some v =>
      obtain ⟨k, d, e, _⟩ := (hv x hx).ok _ (cvAt_mem hc)
      have e' : (-1 : Int) = k := e
      omega
theorem still_of {p : Wv Kp2} {n : Nat} {m0 m1 m2 : Int} {rs : List ((Int × Int) × By)} (hv : VW holdK p) (hks : p.ks = kindsN n) (hn : n < 8) (hm : mapF p.ks = ((m0, m1, m2), 0)) (hR : RsOf m0 m1 m2 p.its rs) :
    VW holdK { p with its := bwF m0 m1 (kdAt p.ks m0) (kdAt p.ks m1) p.its rs } ∧ Still m0 m1 m2 (kdAt p.ks m0) (kdAt p.ks m1) (bwF m0 m1 (kdAt p.ks m0) (kdAt p.ks m1) p.its rs) := by
  have hvc : ∀ x ∈ p.its, VCs holdK p.ks x.2 := fun x hx => (hv.ok x hx).2.2
  rcases mapF_N n hn with h | ⟨K, h, k0, k1, k2⟩
  · rw [hks] at hm
    rw [h] at hm
    injection hm with hm _
    injection hm with e0 hm
    injection hm with e1 e2
    subst e0
    have hrs := rs_none hvc hR
    subst hrs
    exact ⟨hv, fun rs2 h2 => by rw [rs_none hvc h2]; rfl⟩
  · rw [← hks] at h k0 k1 k2
    rw [h] at hm
    injection hm with hm _
    injection hm with e0 hm
    injection hm with e1 e2
    subst e0
    subst e1
    subst e2
    have d0 : kdAt p.ks (K : Int) = (kn_p, kf_p) := by unfold kdAt; rw [List.getD_eq_getElem?_getD, Int.toNat_natCast, k0]; rfl
    have d1 : kdAt p.ks ((K + 1 : Nat) : Int) = (kn_o, kf_o) := by unfold kdAt; rw [List.getD_eq_getElem?_getD, Int.toNat_natCast, k1]; rfl
    rw [d0, d1]
    have ht := fun rs2 => twice_main (rs2 := rs2) hv.sorted hvc k0 k1 hR
    have hent := (KeepL.bwF (m0 := (K : Int)) (m1 := ((K + 1 : Nat) : Int)) (d0 := (kn_p, kf_p)) (d1 := (kn_o, kf_o)) rs p.its).ents
    refine ⟨⟨hv.many, hv.gens, sorted_ents hent hv.sorted, fun x hx => ?_⟩, fun rs2 h2 => (ht rs2).2 h2⟩
    have h1 : x.1 ∈ p.its.map Prod.fst := by rw [← hent]; exact List.mem_map_of_mem hx
    obtain ⟨x0, hx0, he⟩ := List.mem_map.1 h1
    obtain ⟨a1, a2, _⟩ := hv.ok x0 hx0
    rw [he] at a1 a2
    exact ⟨a1, a2, (ht []).1 x hx⟩
end Go.Proofs.Ytnidcmhfbkdioaa
