/-
  Lemmas for the walk, merged (Ej Bt Co Em). No condition but those in each statement.
-/
import Derived.BigQuiet
import Derived.Test.YtnidcmhfbkdioaaSz40
import Derived.Test.YtnidcmhfbkdioaaSz14
import Derived.Test.YtnidcmhfbkdioaaSz5
import Derived.Test.YtnidcmhfbkdioaaSz19
import Derived.Test.YtnidcmhfbkdioaaSz27
namespace Go.Proofs.Ytnidcmhfbkdioaa
/-! ### Ej -/
open Go.RowKit
set_option maxRecDepth 100000
theorem fit_ne {d : ByteArray × List Fd} {vs : List Int} (h1 : oneF d.1 d.2 = 0) (h2 : d.2.length = vs.length) (h3 : 0 < vs.length) : (fitF d.1 d.2 vs).1 ≠ [] := by
  unfold fitF
  rw [if_neg (by simp [h1]), if_neg (by simp [h2])]
  intro h
  have h4 := congrArg List.length h
  simp only [zipF, List.length_zipWith, List.length_nil] at h4
  omega
theorem named_at {ks : List (ByteArray × List Fd)} {nm : ByteArray} {ns : List ByteArray} {m : Int} (h : namedF ks nm ns = (m, true)) (hm : 0 ≤ m) : ∃ K : Nat, m = K ∧ ks[K]? = some (kdAt ks m) ∧ (kdAt ks m).2.length = ns.length := by
  have hx : ∃ d, ks[m.toNat]? = some d := by
    unfold namedF at h
    by_cases hf : findF (ks.map (·.1)) nm < 0
    · rw [if_pos hf] at h
      injection h with h1
      omega
    · rw [if_neg hf] at h
      cases hg : ks[(findF (ks.map (·.1)) nm).toNat]? with
      | none =>
        rw [hg] at h
        injection h with h1
        omega
      | some x =>
        rw [hg] at h
        injection h with h1 h2
        rw [← h1]
        exact ⟨x, hg⟩
  obtain ⟨d, hd⟩ := hx
  have e : kdAt ks m = d := by
    unfold kdAt
    rw [List.getD_eq_getElem?_getD, hd]
    rfl
  refine ⟨m.toNat, by omega, by rw [e]; exact hd, ?_⟩
  rw [e]
  exact named_len h m.toNat d (by omega) hd
theorem mapF_kd {ks : List (ByteArray × List Fd)} {m0 m1 m2 : Int} (h : mapF ks = ((m0, m1, m2), 0)) :
    (0 ≤ m0 → (∃ K : Nat, m0 = K ∧ ks[K]? = some (kdAt ks m0)) ∧ ∀ b, plF (kdAt ks m0) b ≠ []) ∧ (0 ≤ m1 → (∃ K : Nat, m1 = K ∧ ks[K]? = some (kdAt ks m1)) ∧ ∀ b, moF (kdAt ks m1) b ≠ []) := by
  have hc : checkF ks = 0 := by
    unfold mapF at h
    by_cases h0 : checkF ks ≠ 0
    · rw [if_pos h0] at h
      exact absurd (congrArg Prod.snd h) h0
    · exact Decidable.not_not.1 h0
  obtain ⟨_, h1⟩ := check_len hc
  obtain ⟨s0, s1, _⟩ := mapF_ok h
  constructor
  · intro hm
    obtain ⟨K, e1, e2, e3⟩ := named_at s0 hm
    exact ⟨⟨K, e1, e2⟩, fun b => fit_ne (h1 _ (List.mem_of_getElem? e2)) e3 (by simp)⟩
  · intro hm
    obtain ⟨K, e1, e2, e3⟩ := named_at s1 hm
    exact ⟨⟨K, e1, e2⟩, fun b => fit_ne (h1 _ (List.mem_of_getElem? e2)) e3 (by simp)⟩
theorem PlOk.of_valid {p : Wv Kp2} {m0 m1 m2 : Int} (h : VW holdK p) (hc : checkF p.ks = 0) (hm : mapF p.ks = ((m0, m1, m2), 0)) : PlOk m0 p.its := fun x hx => by
  obtain ⟨h1, _⟩ := check_len hc
  obtain ⟨s0, _, _⟩ := mapF_ok hm
  have hv := (h.ok x hx).2.2
  refine ⟨by have := hv.len_le; omega, fun c hcm => ?_⟩
  obtain ⟨k, d, e1, e2, e3⟩ := hv.ok c hcm
  refine ⟨by omega, fun e => ?_⟩
  have h3 := named_len s0 k d (by omega) e2
  have h4 := (holdK_iff.1 e3).2.1
  intro h5
  rw [h5, h3] at h4
  simp [sp0] at h4
/-- A world behind the writing: the entities and the kinds as before, all values but places and motions, too. -/
def KeepC (m0 m1 : Int) (x y : Iv) : Prop := y.1 = x.1 ∧ y.2.length = x.2.length ∧ ∀ (j : Nat) (c d : Cv), x.2[j]? = some c → y.2[j]? = some d → d.1 = c.1 ∧ (c.1 ≠ m0 → c.1 ≠ m1 → d.2 = c.2)
def KeepL (m0 m1 : Int) (l l' : List Iv) : Prop := l'.length = l.length ∧ ∀ (i : Nat) (x y : Iv), l[i]? = some x → l'[i]? = some y → KeepC m0 m1 x y
theorem KeepC.refl {m0 m1 : Int} (x : Iv) : KeepC m0 m1 x x := ⟨rfl, rfl, fun j c d h1 h2 => by rw [h1] at h2; injection h2 with h2; subst h2; exact ⟨rfl, fun _ _ => rfl⟩⟩
theorem KeepC.trans {m0 m1 : Int} {x y z : Iv} (h : KeepC m0 m1 x y) (k : KeepC m0 m1 y z) : KeepC m0 m1 x z := by
  refine ⟨k.1.trans h.1, k.2.1.trans h.2.1, fun j c d h1 h2 => ?_⟩
  have hj : j < y.2.length := by rw [h.2.1]; exact (List.getElem?_eq_some_iff.1 h1).1
  have hy := List.getElem?_eq_getElem hj
  obtain ⟨a1, a2⟩ := h.2.2 j c _ h1 hy
  obtain ⟨b1, b2⟩ := k.2.2 j _ d hy h2
  exact ⟨b1.trans a1, fun g0 g1 => (b2 (by rw [a1]; exact g0) (by rw [a1]; exact g1)).trans (a2 g0 g1)⟩
theorem KeepL.refl {m0 m1 : Int} (l : List Iv) : KeepL m0 m1 l l := ⟨rfl, fun i x y h1 h2 => by rw [h1] at h2; injection h2 with h2; subst h2; exact KeepC.refl _⟩
theorem KeepL.trans {m0 m1 : Int} {a b c : List Iv} (h : KeepL m0 m1 a b) (k : KeepL m0 m1 b c) : KeepL m0 m1 a c := by
  refine ⟨k.1.trans h.1, fun i x y h1 h2 => ?_⟩
  have hi : i < b.length := by rw [h.1]; exact (List.getElem?_eq_some_iff.1 h1).1
  have hb := List.getElem?_eq_getElem hi
  exact (h.2 i x _ h1 hb).trans (k.2 i _ y hb h2)
theorem KeepC.up {m0 m1 : Int} {d0 d1 : ByteArray × List Fd} {b : By} (x : Iv) : KeepC m0 m1 x (bwUp m0 m1 d0 d1 b x) := by
  refine ⟨rfl, by simp [bwUp, updI], fun j c d h1 h2 => ?_⟩
  have h3 : ((x.2.map (updC m0 (plF d0 b))).map (updC m1 (moF d1 b)))[j]? = some d := h2
  rw [List.getElem?_map, List.getElem?_map, h1] at h3
  have h4 : updC m1 (moF d1 b) (updC m0 (plF d0 b) c) = d := by simpa using h3
  rw [← h4]
  unfold updC
  by_cases e0 : c.1 = m0
  · rw [if_pos e0]
    by_cases e1 : ((m0, plF d0 b) : Cv).1 = m1
    · rw [if_pos e1]; exact ⟨by rw [e0]; exact e1.symm, fun h => absurd e0 h⟩
    · rw [if_neg e1]; exact ⟨e0.symm, fun h => absurd e0 h⟩
  · rw [if_neg e0]
    by_cases e1 : c.1 = m1
    · rw [if_pos e1]; exact ⟨e1.symm, fun _ h => absurd e1 h⟩
    · rw [if_neg e1]; exact ⟨rfl, fun _ _ => rfl⟩
theorem KeepL.one {m0 m1 : Int} {d0 d1 : ByteArray × List Fd} (l : List Iv) (r : (Int × Int) × By) : KeepL m0 m1 l (bwOne m0 m1 d0 d1 l r) := by
  unfold bwOne
  cases hx : l[(findP l r.1.1 r.1.2).toNat]? with
  | none => exact KeepL.refl l
  | some z =>
    refine ⟨by simp, fun i x y h1 h2 => ?_⟩
    have hi := (List.getElem?_eq_some_iff.1 h1).1
    by_cases e : i = (findP l r.1.1 r.1.2).toNat
    · rw [← e] at hx h2
      rw [List.getElem?_set_self hi] at h2
      injection h2 with h2
      rw [hx] at h1
      injection h1 with h1
      rw [← h2, ← h1]
      exact KeepC.up z
    · have h3 : (l.set (findP l r.1.1 r.1.2).toNat (bwUp m0 m1 d0 d1 r.2 z))[i]? = l[i]? := List.getElem?_set_ne (Ne.symm e)
      have h4 := h3.symm.trans h2
      rw [h1] at h4
      injection h4 with h4
      rw [← h4]
      exact KeepC.refl _
theorem KeepL.bwF {m0 m1 : Int} {d0 d1 : ByteArray × List Fd} (rs : List ((Int × Int) × By)) : ∀ l : List Iv, KeepL m0 m1 l (bwF m0 m1 d0 d1 l rs) := by
  induction rs with
  | nil => intro l; exact KeepL.refl l
  | cons r rs ih => intro l; exact (KeepL.one l r).trans (ih _)
theorem KeepL.ents {m0 m1 : Int} {l l' : List Iv} (h : KeepL m0 m1 l l') : l'.map Prod.fst = l.map Prod.fst := by
  apply List.ext_getElem?
  intro i
  rw [List.getElem?_map, List.getElem?_map]
  by_cases hi : i < l.length
  · have hi' : i < l'.length := by rw [h.1]; exact hi
    rw [List.getElem?_eq_getElem hi, List.getElem?_eq_getElem hi']
    have := (h.2 i _ _ (List.getElem?_eq_getElem hi) (List.getElem?_eq_getElem hi')).1
    simp [this]
  · rw [List.getElem?_eq_none (show l'.length ≤ i by rw [h.1]; omega), List.getElem?_eq_none (show l.length ≤ i by omega)]
theorem findP_ents (l : List Iv) (N M : Int) : findP l N M = idxF (fun e : Int × Int => decide (e.1 = N ∧ e.2 = M)) (l.map Prod.fst) := by
  unfold findP
  rw [idxF_map]
/-- An entity of the world that has a place can be written. -/
theorem bwBad_no {m0 m1 : Int} {l l' : List Iv} (hk : KeepL m0 m1 l l') (hs : l.Pairwise fun a b => a.1.1 < b.1.1) {x : Iv} (hx : x ∈ l) (hp : (x.2.any fun c => decide (c.1 = m0)) = true) : bwBad m0 l' x.1 = false := by
  obtain ⟨i, hi⟩ := List.getElem?_of_mem hx
  have hil := (List.getElem?_eq_some_iff.1 hi).1
  have hf : findP l' x.1.1 x.1.2 = i := by
    rw [findP_ents, hk.ents]
    refine idxF_hit (x := x.1) (by rw [List.getElem?_map, hi]; rfl) (by simp) fun j y hj hy => decide_eq_false fun hh => ?_
    rw [List.getElem?_map] at hy
    obtain ⟨z, hz, rfl⟩ := Option.map_eq_some_iff.1 hy
    have hjl := (List.getElem?_eq_some_iff.1 hz).1
    have h1 := List.pairwise_iff_getElem.1 hs j i hjl hil hj
    rw [(List.getElem?_eq_some_iff.1 hz).2, (List.getElem?_eq_some_iff.1 hi).2] at h1
    omega
  have hil' : i < l'.length := by rw [hk.1]; exact hil
  have hy := List.getElem?_eq_getElem hil'
  obtain ⟨_, k2, k3⟩ := hk.2 i x _ hi hy
  unfold bwBad
  rw [hf]
  simp only [Int.toNat_natCast]
  rw [hy]
  have h0 : decide ((i : Int) < 0) = false := decide_eq_false (by omega)
  rw [h0]
  simp only [Bool.false_or, Bool.not_eq_false']
  obtain ⟨c, hc, hcm⟩ := List.any_eq_true.1 hp
  obtain ⟨j, hj⟩ := List.getElem?_of_mem hc
  have hjl : j < (l'[i]).2.length := by rw [k2]; exact (List.getElem?_eq_some_iff.1 hj).1
  have h2 := k3 j c _ hj (List.getElem?_eq_getElem hjl)
  refine List.any_eq_true.2 ⟨_, List.getElem_mem hjl, ?_⟩
  rw [decide_eq_true_eq, h2.1]
  simpa using hcm
theorem bodyF_place {m0 m1 m2 : Int} {l : List Cm} {b : Bo} (h : bodyF m0 m1 m2 l = some b) : ((l.map Cm.p).any fun c => decide (c.1 = m0)) = true := by
  unfold bodyF at h
  cases hc : cmAt l m0 with
  | none => rw [hc] at h; cases h
  | some c =>
    obtain ⟨h1, h2⟩ := cmAt_mem hc
    exact List.any_eq_true.2 ⟨c.p, List.mem_map_of_mem h1, decide_eq_true h2⟩
/-- No body of a scene's own world is bad. -/
theorem scene_good {y : Wd} {m0 m1 m2 : Int} {d0 d1 : ByteArray × List Fd} (hv : VW holdK y.p) (bl : List By) : ∀ i r, (((bodiesF m0 m1 m2 y.its).map Prod.snd).zip bl)[i]? = some r → bwBad m0 (bwF m0 m1 d0 d1 y.p.its ((((bodiesF m0 m1 m2 y.its).map Prod.snd).zip bl).take i)) r.1 = false := fun i r hr => by
  rw [List.getElem?_zip_eq_some] at hr
  obtain ⟨q, hq, hq2⟩ := List.mem_map.1 (List.mem_of_getElem? hr.1)
  unfold bodiesF at hq
  obtain ⟨x, hx, hxb⟩ := List.mem_filterMap.1 hq
  obtain ⟨b, hb, rfl⟩ := Option.map_eq_some_iff.1 hxb
  rw [← hq2]
  exact bwBad_no (x := x.p) (KeepL.bwF _ _) hv.sorted (List.mem_map_of_mem hx) (bodyF_place hb)
/-! ### Bt -/
theorem bmCs_get (l : List Bm) (k j : Nat) (f : Bm) (h : l[k]? = some f) (hj : j < 13) : (bmCs l)[k * 13 + j]? = (Bm.cs f)[j]? := by
  have hlen : ∀ x : Bm, (Bm.cs x).length = 13 := fun x => rfl
  induction l generalizing k with
  | nil => simp at h
  | cons a l ih =>
    have e : bmCs (a :: l) = Bm.cs a ++ bmCs l := by simp [bmCs]
    rw [e]
    cases k with
    | zero =>
      have ea : a = f := by simpa using h
      subst ea
      rw [List.getElem?_append_left (by rw [hlen]; omega)]
      congr 1; omega
    | succ k =>
      rw [List.getElem?_append_right (by rw [hlen]; omega)]
      rw [show (k + 1) * 13 + j - (Bm.cs a).length = k * 13 + j by rw [hlen]; omega]
      exact ih k (by simpa using h)
theorem Rd.bm {w : World} {B n : Nat} {A : Option Addr} {l : List Bm} {k : Nat} {f : Bm} (h : Rd w B 13 A n (bmCs l)) (hk : k < n) (hf : l[k]? = some f) :
    ∃ b o, A = some ⟨b, o, none⟩ ∧ b < B ∧ w.cell? ⟨b, o + k * 13, none⟩ = some (.int .i64 f.b.px) ∧ w.cell? ⟨b, o + k * 13 + 1, none⟩ = some (.int .i64 f.b.py) ∧ w.cell? ⟨b, o + k * 13 + 2, none⟩ = some (.int .i64 f.b.vx) ∧ w.cell? ⟨b, o + k * 13 + 3, none⟩ = some (.int .i64 f.b.vy) ∧ w.cell? ⟨b, o + k * 13 + 4, none⟩ = some (.int .i64 f.b.ang) ∧ w.cell? ⟨b, o + k * 13 + 5, none⟩ = some (.int .i64 f.b.spin) ∧ w.cell? ⟨b, o + k * 13 + 6, none⟩ = some (.int .i64 f.b.mass) ∧ w.cell? ⟨b, o + k * 13 + 7, none⟩ = some (.int .i64 f.b.inr) ∧ w.cell? ⟨b, o + k * 13 + 8, none⟩ = some (.int .i64 f.b.bou) ∧ w.cell? ⟨b, o + k * 13 + 9, none⟩ = some (.int .i64 f.b.rub) ∧ w.cell? ⟨b, o + k * 13 + 10, none⟩ = some (.slice (some ⟨f.g, 0, none⟩) 4 f.c) ∧ w.cell? ⟨b, o + k * 13 + 11, none⟩ = some (.bool f.b.asl) ∧ w.cell? ⟨b, o + k * 13 + 12, none⟩ = some (.int .i64 f.b.calm) := by
  obtain ⟨b, o, e, hb, hc⟩ := h.2 (by omega)
  exact ⟨b, o, e, hb, hc (k * 13) _ ((bmCs_get l k 0 f hf (by omega)).trans rfl), by rw [Nat.add_assoc]; exact hc (k * 13 + 1) _ ((bmCs_get l k 1 f hf (by omega)).trans rfl), by rw [Nat.add_assoc]; exact hc (k * 13 + 2) _ ((bmCs_get l k 2 f hf (by omega)).trans rfl), by rw [Nat.add_assoc]; exact hc (k * 13 + 3) _ ((bmCs_get l k 3 f hf (by omega)).trans rfl), by rw [Nat.add_assoc]; exact hc (k * 13 + 4) _ ((bmCs_get l k 4 f hf (by omega)).trans rfl), by rw [Nat.add_assoc]; exact hc (k * 13 + 5) _ ((bmCs_get l k 5 f hf (by omega)).trans rfl), by rw [Nat.add_assoc]; exact hc (k * 13 + 6) _ ((bmCs_get l k 6 f hf (by omega)).trans rfl), by rw [Nat.add_assoc]; exact hc (k * 13 + 7) _ ((bmCs_get l k 7 f hf (by omega)).trans rfl), by rw [Nat.add_assoc]; exact hc (k * 13 + 8) _ ((bmCs_get l k 8 f hf (by omega)).trans rfl), by rw [Nat.add_assoc]; exact hc (k * 13 + 9) _ ((bmCs_get l k 9 f hf (by omega)).trans rfl), by rw [Nat.add_assoc]; exact hc (k * 13 + 10) _ ((bmCs_get l k 10 f hf (by omega)).trans rfl), by rw [Nat.add_assoc]; exact hc (k * 13 + 11) _ ((bmCs_get l k 11 f hf (by omega)).trans rfl), by rw [Nat.add_assoc]; exact hc (k * 13 + 12) _ ((bmCs_get l k 12 f hf (by omega)).trans rfl)⟩
/-! ### Co -/
theorem ScR.below {w w' : World} {base n c kn kc ec : Nat} {A kA E : Option Addr} {q : List (Bo × (Int × Int))} {D : List Ct} (h : ScR w base A n c kA kn kc E ec q D) (hb : Below w.heap.size w w') : ScR w' base A n c kA kn kc E ec q D := by
  obtain ⟨l, h1, h2⟩ := h.bm
  have hk : Kx 0 [] w w' := Kx.of_below hb
  exact ⟨⟨l, h1.keep hk (by simp) (by simp), h2⟩, hk.own h.en (by simp), h.len, hk.own h.ct (by simp)⟩
theorem Bk.bel {w w' : World} {g : Nat} {t : TypeId} {cs : Array Value} (h : Bk w g t cs) (hb : Below w.heap.size w w') : Bk w' g t cs := h.below hb h.lt
theorem Below.dn {w w' : World} {B : Nat} (h : Below B w w') (n : Nat) : Below B w (w'.drewN n) := ⟨h.os, h.tape, h.output, h.size, h.block⟩
theorem WdOk.fresh {w w' : World} {B : Nat} {x : Wd} (h : WdOk w B x) (hb : Below B w w') : WdOk w' w'.heap.size x := by
  have h1 := h.below hb
  have hs : B ≤ w'.heap.size := h1.ks.lo
  exact ⟨h1.ks.more hs (Nat.le_refl _), ⟨h1.gs.rd.more hs, h1.gs.len, h1.gs.cap, h1.gs.cap2, h1.gs.wf, Nat.le_refl _⟩, h1.its.more hs (Nat.le_refl _)⟩
/-! ### Em -/
noncomputable def bkCm : Code := (Try.f15.body.bind (blkN 3)).getD .skip
set_option maxHeartbeats 8000000 in
theorem bkCm_any {x0 x1 x2 x3 x4 x5 x6 x7 x8 x9 x11 x12 x14 x16 x17 x18 x19 x20 x21 x22 x23 x24 x25 x26 x27 x28 x29 x30 x31 x32 x33 x34 x35 x36 x37 x38 x39 x40 x41 x42 x43 x44 x45 x46 x47 x48 x49 x50 x51 x52 x53 x54 x55 x56 x57 x58 x59 x60 x61 x62 x63 x64 x65 x66 x67 x68 x69 x70 x71 x72 x73 x74 x75 x76 x77 x78 x79 x80 x81 x82 x83 x84 x85 x86 x87 x88 x89 x90 x91 x92 x93 x94 x95 x96 x97 x98 x99 x100 x101 x102 x103 x104 x105 x106 x107 x108 x109 x110 x112 x114 x115 x116 x117 x118 x119 x120 x121 x122 x123 x124 x125 x126 x127 x128 x129 x130 x131 x132 x133 x134 x135 x136 x137 x138 x139 x140 x141 x142 x143 x144 x145 x146 x147 x148 x149 x150 x151 x152 x153 x154 x155 : Value} {Q : Exit → Act → World → Prop} {w0 : World} {B i j vA mA cn cc im ic : Nat} {cA iA : Option Addr} {its : List It} {x : It} {l : List Cm} {c d : Cm} {m0 m1 m2 : Int} {V0 V1 : Value}
    (hl : CsOk w0 B cA cn cc l) (hc : l[j]? = some c) (hi : IsOk w0 B iA im ic its) (hx : its[i]? = some x) (hd : x.cms[j]? = some d) (hkd : d.k = c.k) (hv : c.k ≠ m0 → c.k ≠ m1 → d.vals = c.vals)
    (hV : Bk w0 vA 52 #[V0, V1, .slice iA im ic]) (hm : Bk w0 mA 24 #[.int .i64 m0, .int .i64 m1, .int .i64 m2])
    (hN : ∀ (y17 y18 y19 y115 y116 y117 y118 y119 y120 y121 y122 y123 y124 y125 y126 y127 y128 y129 y130 y131 y132 y133 y134 y135 y136 y137 y138 y139 y140 y141 y142 y143 y144 y145 y146 y147 y148 y149 y150 y151 y152 y153 : Value) (w' : World), Hid (Below w0.heap.size w0 w') → Q .normal ⟨#[x0, x1, x2, x3, x4, x5, x6, x7, x8, x9, .pointer (some ⟨vA, 0, none⟩), x11, x12, .pointer (some ⟨mA, 0, none⟩), x14, .int .i64 (i : Int), x16, y17, y18, y19, x20, x21, x22, x23, x24, x25, x26, x27, x28, x29, x30, x31, x32, x33, x34, x35, x36, x37, x38, x39, x40, x41, x42, x43, x44, x45, x46, x47, x48, x49, x50, x51, x52, x53, x54, x55, x56, x57, x58, x59, x60, x61, x62, x63, x64, x65, x66, x67, x68, x69, x70, x71, x72, x73, x74, x75, x76, x77, x78, x79, x80, x81, x82, x83, x84, x85, x86, x87, x88, x89, x90, x91, x92, x93, x94, x95, x96, x97, x98, x99, x100, x101, x102, x103, x104, x105, x106, x107, x108, x109, x110, .slice cA cn cc, x112, .int .i64 (j : Int), x114, y115, y116, y117, y118, y119, y120, y121, y122, y123, y124, y125, y126, y127, y128, y129, y130, y131, y132, y133, y134, y135, y136, y137, y138, y139, y140, y141, y142, y143, y144, y145, y146, y147, y148, y149, y150, y151, y152, y153, x154, x155], []⟩ w') :
    Code.wp Try.prog bkCm Q ⟨#[x0, x1, x2, x3, x4, x5, x6, x7, x8, x9, .pointer (some ⟨vA, 0, none⟩), x11, x12, .pointer (some ⟨mA, 0, none⟩), x14, .int .i64 (i : Int), x16, x17, x18, x19, x20, x21, x22, x23, x24, x25, x26, x27, x28, x29, x30, x31, x32, x33, x34, x35, x36, x37, x38, x39, x40, x41, x42, x43, x44, x45, x46, x47, x48, x49, x50, x51, x52, x53, x54, x55, x56, x57, x58, x59, x60, x61, x62, x63, x64, x65, x66, x67, x68, x69, x70, x71, x72, x73, x74, x75, x76, x77, x78, x79, x80, x81, x82, x83, x84, x85, x86, x87, x88, x89, x90, x91, x92, x93, x94, x95, x96, x97, x98, x99, x100, x101, x102, x103, x104, x105, x106, x107, x108, x109, x110, .slice cA cn cc, x112, .int .i64 (j : Int), x114, x115, x116, x117, x118, x119, x120, x121, x122, x123, x124, x125, x126, x127, x128, x129, x130, x131, x132, x133, x134, x135, x136, x137, x138, x139, x140, x141, x142, x143, x144, x145, x146, x147, x148, x149, x150, x151, x152, x153, x154, x155], []⟩ w0 := by
  conv => arg 2; whnf
  have hjn : j < cn := by rw [hl.len]; exact (List.getElem?_eq_some_iff.1 hc).1
  have hin : i < im := by rw [hi.len]; exact (List.getElem?_eq_some_iff.1 hx).1
  have hxo := hi.ok x (List.mem_of_getElem? hx)
  have hjx : j < x.n := by rw [hxo.cs.len]; exact (List.getElem?_eq_some_iff.1 hd).1
  obtain ⟨cb, co, hcA, hcb, q0, q1⟩ := Rd.cm hl.rd hjn hc
  subst hcA
  obtain ⟨ib, io, hiA, hib, i0, i1, i2⟩ := Rd.it hi.rd hin hx
  subst hiA
  obtain ⟨xb, xo, hxA, hxb, p0, p1⟩ := Rd.cm hxo.cs.rd hjx hd
  rw [hxA] at i2
  have hjz : (j : Int) < cn := by omega
  have hjz0 : (0 : Int) ≤ j := by omega
  have hjxz : (j : Int) < x.n := by omega
  have hiz : (i : Int) < im := by omega
  have hiz0 : (0 : Int) ≤ i := by omega
  have hc1 := hl.cap
  have hc2 := hl.cap2
  have hi1 := hi.cap
  have hi2 := hi.cap2
  have hx1 := hxo.cs.cap
  have hx2 := hxo.cs.cap2
  rw [hkd] at p0
  obtain ⟨kk, hkk⟩ : ∃ z, z = c.k := ⟨_, rfl⟩
  rw [← hkk] at q0 p0 hv
  have HCO : Hid (CmOk w0 B c ∧ CmOk w0 B d ∧ B ≤ w0.heap.size) := Lib.hid ⟨hl.ok c (List.mem_of_getElem? hc), hxo.cs.ok d (List.mem_of_getElem? hd), hl.lo⟩
  have HV := Lib.hid hv
  have v2 : w0.cell? ⟨vA, 2, none⟩ = some (.slice (some ⟨ib, io, none⟩) im ic) := hV.cell 2
  have HM := Lib.hid hm
  have HVV := Lib.hid hV
  obtain ⟨ca, hca⟩ : ∃ z, z = w0.heap.size := ⟨_, rfl⟩
  obtain ⟨W1, hW1⟩ : ∃ z, z = w0.alloc (.cells #[.int .i64 kk, .slice c.A c.n c.c] 166) := ⟨_, rfl⟩
  have hb1 : Below w0.heap.size w0 W1 := by rw [hW1]; exact (Below.refl _ _).alloc (Nat.le_refl _) _
  have HC1 : Hid (Bk W1 ca 166 #[.int .i64 kk, .slice c.A c.n c.c]) := Lib.hid (by rw [hW1, hca]; exact Bk.new _ _ _)
  have hw : ∀ p u, w0.cell? p = some u → W1.cell? p = some u := fun p u h => (hb1.cell (World.block_lt_of_cell? _ _ h)).trans h
  have i2' := hw _ _ i2
  have p0' := hw _ _ p0
  have p1' := hw _ _ p1
  have v2' := hw _ _ v2
  have HB1 := Lib.hid hb1
  clear hl hc hi hx hd hkd hv hV hm hxo hcb hib hxb hkk hb1 hw i0 i1 i2 p0 p1 v2 hxA
  go_upto_region 16 with fail
  rw [← hW1, ← hca]
  clear q0 q1 hW1 hca
  obtain ⟨da, hda⟩ : ∃ z, z = W1.heap.size := ⟨_, rfl⟩
  obtain ⟨W2, hW2⟩ : ∃ z, z = W1.alloc (.cells #[.int .i64 kk, .slice d.A d.n d.c] 166) := ⟨_, rfl⟩
  have hb2 : Below W1.heap.size W1 W2 := by rw [hW2]; exact (Below.refl _ _).alloc (Nat.le_refl _) _
  have HD2 : Hid (Bk W2 da 166 #[.int .i64 kk, .slice d.A d.n d.c]) := Lib.hid (by rw [hW2, hda]; exact Bk.new _ _ _)
  have HC2 := Lib.hid (HC1.out.below hb2 HC1.out.lt)
  have HM2 := Lib.hid ((HM.out.below HB1.out HM.out.lt).below hb2 (HM.out.below HB1.out HM.out.lt).lt)
  have HF : Hid (Below w0.heap.size w0 W2) := Lib.hid (HB1.out.trans (hb2.mono HB1.out.size))
  clear hb2 HB1 HM HC1 HVV
  go_upto_region 17 with fail
  rw [← hW2, ← hda]
  clear i2' p0' p1' v2' hW2 hda
  have c0 : W2.cell? ⟨ca, 0, none⟩ = some (.int .i64 kk) := HC2.out.cell 0
  have c1 : W2.cell? ⟨ca, 1, none⟩ = some (.slice c.A c.n c.c) := HC2.out.cell 1
  have d0 : W2.cell? ⟨da, 0, none⟩ = some (.int .i64 kk) := HD2.out.cell 0
  have d1 : W2.cell? ⟨da, 1, none⟩ = some (.slice d.A d.n d.c) := HD2.out.cell 1
  have e0 : W2.cell? ⟨mA, 0, none⟩ = some (.int .i64 m0) := HM2.out.cell 0
  have e1 : W2.cell? ⟨mA, 1, none⟩ = some (.int .i64 m1) := HM2.out.cell 1
  have t0 : (kk != kk) = false := by simp
  by_cases h0 : kk = m0
  · have t1 : (kk != m0) = false := by simp [h0]
    clear h0
    go_wp2_with fail
    (try simp only [Exit.inBlock, Exit.then])
    first
      | exact HF
      | exact hN _ _ _ _ _ _ _ _ _ _ _ _ _ _ _ _ _ _ _ _ _ _ _ _ _ _ _ _ _ _ _ _ _ _ _ _ _ _ _ _ _ _ _ HF
  · have t1 : (kk != m0) = true := by simp [h0]
    by_cases h1 : kk = m1
    · have t2 : (kk != m1) = false := by simp [h1]
      clear h0 h1
      go_wp2_with fail
      (try simp only [Exit.inBlock, Exit.then])
      first
        | exact HF
        | exact hN _ _ _ _ _ _ _ _ _ _ _ _ _ _ _ _ _ _ _ _ _ _ _ _ _ _ _ _ _ _ _ _ _ _ _ _ _ _ _ _ _ _ _ HF
    · have t2 : (kk != m1) = true := by simp [h1]
      have HEQ : Hid (Calls Try.prog 27 #[.slice c.A c.n c.c, .slice d.A d.n d.c] W2 fun e w' => e = .returned (.bool true) ∧ ∃ m, W2.drewN m = w') := Lib.hid (by
        have hvv := HV.out h0 h1
        have a1 := HCO.out.1
        have a2 := HCO.out.2.1
        have hB := HF.out.mono HCO.out.2.2
        have h3 := equalInts_any c.A d.A c.n c.c d.n d.c B c.vals d.vals W2 a1.len a2.len (Nat.le_trans a1.cap a1.cap2) (a1.rd.below hB) (a2.rd.below hB)
        rw [hvv, decide_eq_true rfl] at h3
        exact h3)
      clear h0 h1
      go_wp2_with fail
      (with_reducible refine HEQ.out.mono ?_)
      rintro e' w3 ⟨rfl, m, rfl⟩
      have HF3 : Hid (Below w0.heap.size w0 (W2.drewN m)) := Lib.hid (⟨HF.out.os, HF.out.tape, HF.out.output, HF.out.size, HF.out.block⟩)
      clear HEQ
      go_wp2_with fail
      have HF := HF3
      (try simp only [Exit.inBlock, Exit.then])
      first
        | exact HF
        | exact hN _ _ _ _ _ _ _ _ _ _ _ _ _ _ _ _ _ _ _ _ _ _ _ _ _ _ _ _ _ _ _ _ _ _ _ _ _ _ _ _ _ _ _ HF
end Go.Proofs.Ytnidcmhfbkdioaa
