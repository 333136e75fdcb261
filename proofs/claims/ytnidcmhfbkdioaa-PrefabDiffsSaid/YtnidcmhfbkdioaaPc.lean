/-
  The contract of prefab.over. Conditions: what is read can be read; components of kinds that there are.
-/
import Derived.Test.YtnidcmhfbkdioaaPa
import Derived.Test.YtnidcmhfbkdioaaPb
import Derived.BigQuiet
namespace Go.Proofs.Ytnidcmhfbkdioaa
open Go.RowKit
set_option maxRecDepth 100000

theorem idxF_cases {α : Type} (p : α → Bool) (l : List α) : (∃ (i : Nat) (x : α), l[i]? = some x ∧ p x = true ∧ (∀ (j : Nat) (y : α), j < i → l[j]? = some y → p y = false) ∧ idxF p l = (i : Int)) ∨ ((∀ (j : Nat) (y : α), l[j]? = some y → p y = false) ∧ idxF p l = -1) := by
  have key : (∃ (i : Nat) (x : α), l[i]? = some x ∧ p x = true ∧ (∀ (j : Nat) (y : α), j < i → l[j]? = some y → p y = false)) ∨ (∀ (j : Nat) (y : α), l[j]? = some y → p y = false) := by
    induction l with
    | nil => exact .inr fun j y h => by simp at h
    | cons a r ih =>
      cases ha : p a with
      | true => exact .inl ⟨0, a, rfl, ha, fun j y hj => by omega⟩
      | false =>
        rcases ih with ⟨i, x, h1, h2, h3⟩ | h
        · refine .inl ⟨i + 1, x, by simpa using h1, h2, fun j y hj hy => ?_⟩
          cases j with
          | zero => have e : a = y := by simpa using hy
                    rw [← e]; exact ha
          | succ j => exact h3 j y (by omega) (by simpa using hy)
        · refine .inr fun j y hy => ?_
          cases j with
          | zero => have e : a = y := by simpa using hy
                    rw [← e]; exact ha
          | succ j => exact h j y (by simpa using hy)
  rcases key with ⟨i, x, h1, h2, h3⟩ | h
  · exact .inl ⟨i, x, h1, h2, h3, idxF_hit h1 h2 h3⟩
  · exact .inr ⟨h, idxF_none h⟩
theorem find_first {α β : Type} {f : α → β} {p : β → Bool} : ∀ {l : List α} {i : Nat} {x : α}, l[i]? = some x → p (f x) = true → (∀ (j : Nat) (y : α), j < i → l[j]? = some y → p (f y) = false) → (l.map f).find? p = some (f x)
  | [], _, _, h, _, _ => by simp at h
  | a :: r, 0, x, h, hp, _ => by
    have e : a = x := by simpa using h
    rw [List.map_cons, List.find?_cons, e, hp]
  | a :: r, i + 1, x, h, hp, hf => by
    rw [List.map_cons, List.find?_cons, hf 0 a (by omega) rfl]
    exact find_first (by simpa using h) hp fun j y hj hy => hf (j + 1) y (by omega) (by simpa using hy)
theorem find_no {α β : Type} {f : α → β} {p : β → Bool} {l : List α} (h : ∀ (j : Nat) (y : α), l[j]? = some y → p (f y) = false) : (l.map f).find? p = none := by
  rw [List.find?_eq_none]
  intro x hx
  obtain ⟨y, hy, rfl⟩ := List.mem_map.1 hx
  obtain ⟨j, hj, e⟩ := List.getElem_of_mem hy
  rw [h j y (by rw [List.getElem?_eq_getElem hj, e])]; simp
theorem own_monoP {w : World} {base base' size n : Nat} {e : TypeId} {v : Value} {xs : List Value} (h : w.ownsRow base e size v n xs) (hb : base' ≤ base) : w.ownsRow base' e size v n xs := by
  refine ⟨h.1, ?_⟩
  rcases h.2 with h2 | ⟨g, cap, cur, h3, h4, h5⟩
  · exact .inl h2
  · exact .inr ⟨g, cap, cur, h3, Nat.le_trans hb h4, h5⟩
theorem own_setJ {w : World} {base n c g j : Nat} {e : TypeId} {xs : List Value} (h : w.ownsRow base e 1 (.slice (some ⟨g, 0, none⟩) n c) n xs) (hj : j < n) (u : Value) : (w.setCell ⟨g, j, none⟩ u).ownsRow base e 1 (.slice (some ⟨g, 0, none⟩) n c) n (xs.set j u) := by
  refine ⟨by rw [List.length_set]; exact h.1, ?_⟩
  rcases h.2 with ⟨hv, hn⟩ | ⟨g', cap, cur, hv, h3, h4, h5, h6, h7, h8⟩
  · omega
  · injection hv with h1 h2 h3'
    injection h1 with h1
    injection h1 with h1
    subst h1 h3'
    refine .inr ⟨g, c, cur.setIfInBounds j u, rfl, h3, Bk.set_ (show Bk w g e cur from h4) j u, h5, h6, by rw [Array.size_setIfInBounds]; exact h7, ?_⟩
    rw [Array.toList_setIfInBounds, ← h8, List.take_set]
def fitV (ks : List Kp2) (K : Int) (v : List Int) : Int :=
  match ks[K.toNat]? with
  | none => 0
  | some d => if (fitF d.1 d.2 v).2 ≠ 0 then (fitF d.1 d.2 v).2 else if (fitF d.1 d.2 v).1 ≠ v then 1 else 0
/-- prefab.over: the fault of a replacement, or 0. -/
def ovCode (ks : List Kp2) (l : List (List Int × List (Int × List Int))) (path : List Int) (K F V : Int) : Int :=
  match l.find? (fun x => decide (x.1 = path)) with
  | none => 4
  | some x => match x.2.find? (fun c => decide (c.1 = K)) with
    | none => 4
    | some c => if F < 0 ∨ (c.2.length : Int) ≤ F then 4 else fitV ks K (c.2.set F.toNat V)
/-- Where the replacement was made: component j of entity i has a new row of values. -/
def OvDone (w : World) (l : List Bt) (path : List Int) (K F V : Int) (w' : World) : Prop :=
  ∃ (i j : Nat) (x : Bt) (cm : Cm) (g c' b o : Nat) (w1 : World), l[i]? = some x ∧ x.path = path ∧ (∀ (i' : Nat) (y : Bt), i' < i → l[i']? = some y → ¬ y.path = path) ∧ x.cms[j]? = some cm ∧ cm.k = K ∧ (∀ (j' : Nat) (y : Cm), j' < j → x.cms[j']? = some y → ¬ y.k = K) ∧ 0 ≤ F ∧ F < (cm.vals.length : Int) ∧
    x.cA = some ⟨b, o, none⟩ ∧ w1.ownsRow w.heap.size 3 1 (.slice (some ⟨g, 0, none⟩) cm.n c') cm.n ((cm.vals.set F.toNat V).map (Value.int .i64)) ∧ Below w.heap.size w w1 ∧ w' = w1.setCell ⟨b, o + j * 2 + 1, none⟩ (.slice (some ⟨g, 0, none⟩) cm.n c')
def OvP (w : World) (ks : List Kp2) (l : List Bt) (path : List Int) (K F V : Int) (e : Ending) (w' : World) : Prop :=
  e = .returned (.int .i64 (ovCode ks (l.map Bt.p) path K F V)) ∧ ((ovCode ks (l.map Bt.p) path K F V ≠ 0 ∧ Below w.heap.size w w') ∨ (ovCode ks (l.map Bt.p) path K F V = 0 ∧ OvDone w l path K F V w'))

set_option maxHeartbeats 8000000 in
theorem over_any {w : World} {B kn kc n c pn pc : Nat} {kA A pA : Option Addr} {ks : List Kd} {l : List Bt} {path : List Int} {K F V : Int} (hk : KsOk w B kA kn kc ks) (hl : BsOk w B A n c l) (hp : Rd w B 1 pA pn (path.map (Value.int .i64))) (hpn : pn = path.length) (hpc : pn ≤ pc) (hpc2 : pc ≤ 9223372036854775807)
    (hF : (Lit.int .i64 F).wf = true) (hval : ∀ x ∈ l, ∀ cm ∈ x.cms, (∃ k : Nat, cm.k = k ∧ k < ks.length) ∧ cm.n ≤ 1048576) (hrow : ∀ x ∈ l, 0 < x.cn → ∃ b o cs, x.cA = some ⟨b, o, none⟩ ∧ Bk w b 166 cs) :
    Calls Try.prog 168 #[.slice kA kn kc, .slice A n c, .agg #[.slice pA pn pc, .int .i64 K, .int .i64 F, .int .i64 V]] w (OvP w (ks.map Kd.p) l path K F V) := by
  have hB := hl.lo
  obtain ⟨W1, hW1⟩ : ∃ W1, W1 = w.alloc (.cells #[.slice pA pn pc, .int .i64 K, .int .i64 F, .int .i64 V] 158) := ⟨_, rfl⟩
  obtain ⟨gb, hgb⟩ : ∃ gb, gb = w.heap.size := ⟨_, rfl⟩
  have hb1 : Below w.heap.size w W1 := by rw [hW1]; exact (Below.refl _ _).alloc (Nat.le_refl _) _
  have hov : OvB W1 gb pA pn pc path K F V := ⟨by rw [hW1, hgb]; exact Bk.new _ _ _, ((hp.below (hb1.mono hB)).more (by omega)), hpn, hpc, hpc2⟩
  have hFr := bounds_i64 hF
  have HI1 := Lib.hid (idxOvB_any gb (hl.below (hb1.mono hB)) hov)
  have HK := Lib.hid hk
  have HL := Lib.hid hl
  have HB1 := Lib.hid hb1
  have HOV := Lib.hid hov
  have HVAL := Lib.hid hval
  have HROW := Lib.hid hrow
  have HW1 := Lib.hid (And.intro hW1 hgb)
  have hcap := hl.cap
  have hcap2 := hl.cap2
  have hkcap := hk.cap
  have hkcap2 := hk.cap2
  obtain ⟨R, hR⟩ : ∃ R, R = ovCode (ks.map Kd.p) (l.map Bt.p) path K F V := ⟨_, rfl⟩
  unfold OvP
  rw [← hR]
  have HR := Lib.hid hR
  clear hk hl hp hpn hov hW1 hgb hb1 hval hrow hR hF
  go_enter Try.func168, Try.ntmps168
  go_upto_region 1 with fail
  rw [← HW1.out.1, ← HW1.out.2]
  go_wp2_with fail
  with_reducible refine (HI1.out).mono ?_
  clear HI1
  rintro e w2 ⟨rfl, hb2⟩
  have HB2 : Hid (Below w.heap.size w w2) := Lib.hid (HB1.out.trans (hb2.mono HB1.out.size))
  have HOV2 : Hid (OvB w2 gb pA pn pc path K F V) := Lib.hid (HOV.out.below hb2)
  have HL2 : Hid (BsOk w2 B A n c l) := Lib.hid (HL.out.below (HB2.out.mono hB))
  clear hb2
  rcases idxF_cases (fun x : Bt => decide (x.path = path)) l with ⟨i, x, hx, hpx, hfx, hi⟩ | ⟨hno, hi⟩
  · rw [hi]
    have hin : i < n := by have := (List.getElem?_eq_some_iff.1 hx).1; have := HL.out.len; omega
    obtain ⟨b, o, rfl, hbb, q0, q1⟩ := HL2.out.rd.bt hin hx
    have hxo := HL2.out.ok x (List.mem_of_getElem? hx)
    have hiz : (i : Int) < n := by omega
    have hiz0 : ¬ ((i : Int) < 0) := by omega
    have hiz1 : (0 : Int) ≤ i := by omega
    have HI2 := Lib.hid (idxOvC_any gb hxo.cs HOV2.out)
    have HX := Lib.hid (And.intro hx (And.intro (of_decide_eq_true hpx) (fun (j : Nat) (y : Bt) hj hy => of_decide_eq_false (hfx j y hj hy))))
    have HXF := Lib.hid (find_first (f := Bt.p) (p := fun x => decide (x.1 = path)) hx hpx hfx)
    have HXO := Lib.hid hxo
    clear hx hpx hfx hi hxo
    go_wp2_with fail
    with_reducible refine (HI2.out).mono ?_
    clear HI2
    rintro e w3 ⟨rfl, hb3⟩
    have HB3 : Hid (Below w.heap.size w w3) := Lib.hid (HB2.out.trans (hb3.mono HB2.out.size))
    have HOV3 : Hid (OvB w3 gb pA pn pc path K F V) := Lib.hid (HOV2.out.below hb3)
    have hx3 : BtOk w3 B x := HXO.out.below (hb3.mono (by have := HB2.out.size; omega))
    have p0 : w3.cell? ⟨b, o + i * 2, none⟩ = some (.slice x.pA x.pn x.pc) := (World.cell?_of_block (w := w2) (hb3.block b (by have := HB2.out.size; omega))).trans q0
    have p1 : w3.cell? ⟨b, o + i * 2 + 1, none⟩ = some (.slice x.cA x.cn x.cc) := (World.cell?_of_block (w := w2) (hb3.block b (by have := HB2.out.size; omega))).trans q1
    have o1 : w3.cell? ⟨gb, 1, none⟩ = some (.int .i64 K) := HOV3.out.bk.cell 1
    have o2 : w3.cell? ⟨gb, 2, none⟩ = some (.int .i64 F) := HOV3.out.bk.cell 2
    have o3 : w3.cell? ⟨gb, 3, none⟩ = some (.int .i64 V) := HOV3.out.bk.cell 3
    have HX3 := Lib.hid hx3
    clear hb3 q0 q1
    rcases idxF_cases (fun c : Cm => decide (c.k = K)) x.cms with ⟨j, cm, hcm, hpc3, hfc, hj⟩ | ⟨hno, hj⟩
    · rw [hj]
      have hjn : j < x.cn := by have := (List.getElem?_eq_some_iff.1 hcm).1; have := hx3.cs.len; omega
      obtain ⟨b2, o2', hcA, hbb2, r0, r1⟩ := hx3.cs.rd.cm hjn hcm
      have hjz : (j : Int) < x.cn := by omega
      have hjz0 : ¬ ((j : Int) < 0) := by omega
      have hjz1 : (0 : Int) ≤ j := by omega
      have hcmo := hx3.cs.ok cm (List.mem_of_getElem? hcm)
      have HC := Lib.hid (And.intro hcm (And.intro (of_decide_eq_true hpc3) (fun (j' : Nat) (y : Cm) hj' hy => of_decide_eq_false (hfc j' y hj' hy))))
      have HCF := Lib.hid (find_first (f := Cm.p) (p := fun c => decide (c.1 = K)) hcm hpc3 hfc)
      have HRR : Hid (R = if F < 0 ∨ (cm.vals.length : Int) ≤ F then 4 else fitV (ks.map Kd.p) K (cm.vals.set F.toNat V)) := Lib.hid (by
        rw [HR.out]; unfold ovCode
        rw [HXF.out]
        show (match (x.cms.map Cm.p).find? (fun c => decide (c.1 = K)) with | none => (4 : Int) | some c => if F < 0 ∨ (c.2.length : Int) ≤ F then 4 else fitV (ks.map Kd.p) K (c.2.set F.toNat V)) = _
        rw [HCF.out]; rfl)
      have HCO := Lib.hid hcmo
      have HCA := Lib.hid hcA
      rw [hcA] at p1
      have hml : cm.n = cm.vals.length := hcmo.len
      have HML := Lib.hid hml
      have hcn1 := hcmo.cap
      have hcn2 := hcmo.cap2
      clear hcm hpc3 hfc hj hcmo hcA hx3 hml
      obtain ⟨mn, hmn⟩ : ∃ mn, mn = cm.n := ⟨_, rfl⟩
      obtain ⟨mA, hmA⟩ : ∃ mA, mA = cm.A := ⟨_, rfl⟩
      obtain ⟨mc, hmc⟩ : ∃ mc, mc = cm.c := ⟨_, rfl⟩
      rw [← hmn, ← hmA, ← hmc] at r1
      rw [← hmn, ← hmc] at hcn1
      rw [← hmc] at hcn2
      obtain ⟨xn, hxn⟩ : ∃ xn, xn = x.cn := ⟨_, rfl⟩
      obtain ⟨xc, hxc⟩ : ∃ xc, xc = x.cc := ⟨_, rfl⟩
      rw [← hxn, ← hxc] at p1
      rw [← hxn] at hjz hjn
      have HM := Lib.hid (And.intro hmn (And.intro hmA hmc))
      clear hmn hmA hmc hxn hxc
      obtain ⟨fv, hfv⟩ : ∃ fv, fv = decide (F < 0 ∨ (mn : Int) ≤ F) := ⟨_, rfl⟩
      have HFV := Lib.hid hfv
      clear hfv
      go_upto_if 47 with fail
      go_cut [47] from 24 to 46 (fun bv wx => bv = .bool fv ∧ ∃ q, w3.drewN q = wx)
      case first =>
        have s5 : w3.drew.cell? ⟨gb, 2, none⟩ = some (.int .i64 F) ∧ w3.drew.cell? ⟨b, o + i * 2 + 1, none⟩ = some (.slice (some ⟨b2, o2', none⟩) xn xc) ∧ w3.drew.cell? ⟨b2, o2' + j * 2 + 1, none⟩ = some (.slice mA mn mc) := ⟨o2, p1, r1⟩
        by_cases hf0 : F < 0
        · have hfe : fv = true := by rw [HFV.out]; exact decide_eq_true (.inl hf0)
          subst hfe
          refine wp_region_H (S := fun wz => wz.cell? ⟨gb, 2, none⟩ = some (.int .i64 F) ∧ wz.cell? ⟨b, o + i * 2 + 1, none⟩ = some (.slice (some ⟨b2, o2', none⟩) xn xc) ∧ wz.cell? ⟨b2, o2' + j * 2 + 1, none⟩ = some (.slice mA mn mc)) (by kernel_rfl) ?_
          refine wpAnyH_val (i := 0) (v := .int .i64 j) (d := some 24) rfl rfl (by kernel_rfl) (by kernel_rfl) (by kernel_rfl) (fun _ _ _ h => h) (Or.inl ⟨by rfl, fun w hS => by (obtain ⟨h0, h1, h2⟩ := hS; go_simp)⟩) s5 ?_
          (try simp only [Act.put, List.setIfInBounds_toArray, List.set_cons_zero, List.set_cons_succ])
          refine wpAnyH_val (i := 1) (v := .bool false) (d := some 25) rfl rfl (by kernel_rfl) (by kernel_rfl) (by kernel_rfl) (fun _ _ _ h => h) (Or.inl ⟨by rfl, fun w hS => by (obtain ⟨h0, h1, h2⟩ := hS; go_simp)⟩) s5 ?_
          (try simp only [Act.put, List.setIfInBounds_toArray, List.set_cons_zero, List.set_cons_succ])
          refine wpAnyH_val (i := 2) (v := .bool false) (d := some 26) rfl rfl (by kernel_rfl) (by kernel_rfl) (by kernel_rfl) (fun _ _ _ h => h) (Or.inl ⟨by rfl, fun w hS => by (obtain ⟨h0, h1, h2⟩ := hS; go_simp)⟩) s5 ?_
          (try simp only [Act.put, List.setIfInBounds_toArray, List.set_cons_zero, List.set_cons_succ])
          refine wpAnyH_val (i := 3) (v := .pointer (some ⟨gb, 1, none⟩)) (d := some 27) rfl rfl (by kernel_rfl) (by kernel_rfl) (by kernel_rfl) (fun _ _ _ h => h) (Or.inl ⟨by rfl, fun w hS => by (obtain ⟨h0, h1, h2⟩ := hS; go_simp)⟩) s5 ?_
          (try simp only [Act.put, List.setIfInBounds_toArray, List.set_cons_zero, List.set_cons_succ])
          refine wpAnyH_val (i := 4) (v := .pointer (some ⟨gb, 2, none⟩)) (d := some 28) rfl rfl (by kernel_rfl) (by kernel_rfl) (by kernel_rfl) (fun _ _ _ h => h) (Or.inl ⟨by rfl, fun w hS => by (obtain ⟨h0, h1, h2⟩ := hS; go_simp)⟩) s5 ?_
          (try simp only [Act.put, List.setIfInBounds_toArray, List.set_cons_zero, List.set_cons_succ])
          refine wpAnyH_val (i := 5) (v := .int .i64 F) (d := some 29) rfl rfl (by kernel_rfl) (by kernel_rfl) (by kernel_rfl) (fun _ _ _ h => h) (Or.inl ⟨by rfl, fun w hS => by (obtain ⟨h0, h1, h2⟩ := hS; go_simp)⟩) s5 ?_
          (try simp only [Act.put, List.setIfInBounds_toArray, List.set_cons_zero, List.set_cons_succ])
          refine wpAnyH_val (i := 6) (v := .bool true) (d := some 30) rfl rfl (by kernel_rfl) (by kernel_rfl) (by kernel_rfl) (fun _ _ _ h => h) (Or.inl ⟨by rfl, fun w hS => by (obtain ⟨h0, h1, h2⟩ := hS; go_simp)⟩) s5 ?_
          (try simp only [Act.put, List.setIfInBounds_toArray, List.set_cons_zero, List.set_cons_succ])
          refine wpAnyH_val (i := 7) (v := .bool true) (d := some 31) rfl rfl (by kernel_rfl) (by kernel_rfl) (by kernel_rfl) (fun _ _ _ h => h) (Or.inl ⟨by rfl, fun w hS => by (obtain ⟨h0, h1, h2⟩ := hS; go_simp)⟩) s5 ?_
          (try simp only [Act.put, List.setIfInBounds_toArray, List.set_cons_zero, List.set_cons_succ])
          refine wpAnyH_val (i := 8) (v := .bool true) (d := some 32) rfl rfl (by kernel_rfl) (by kernel_rfl) (by kernel_rfl) (fun _ _ _ h => h) (Or.inl ⟨by rfl, fun w hS => by (obtain ⟨h0, h1, h2⟩ := hS; go_simp)⟩) s5 ?_
          (try simp only [Act.put, List.setIfInBounds_toArray, List.set_cons_zero, List.set_cons_succ])
          refine wpAnyH_val (i := 9) (v := undef) (d := some 33) rfl rfl (by kernel_rfl) (by kernel_rfl) (by kernel_rfl) (fun _ _ _ h => h) (Or.inr ⟨by rfl, rfl⟩) s5 ?_
          (try simp only [Act.put, List.setIfInBounds_toArray, List.set_cons_zero, List.set_cons_succ])
          refine wpAnyH_val (i := 10) (v := undef) (d := some 34) rfl rfl (by kernel_rfl) (by kernel_rfl) (by kernel_rfl) (fun _ _ _ h => h) (Or.inr ⟨by rfl, rfl⟩) s5 ?_
          (try simp only [Act.put, List.setIfInBounds_toArray, List.set_cons_zero, List.set_cons_succ])
          refine wpAnyH_val (i := 11) (v := undef) (d := some 35) rfl rfl (by kernel_rfl) (by kernel_rfl) (by kernel_rfl) (fun _ _ _ h => h) (Or.inr ⟨by rfl, rfl⟩) s5 ?_
          (try simp only [Act.put, List.setIfInBounds_toArray, List.set_cons_zero, List.set_cons_succ])
          refine wpAnyH_val (i := 12) (v := undef) (d := some 36) rfl rfl (by kernel_rfl) (by kernel_rfl) (by kernel_rfl) (fun _ _ _ h => h) (Or.inr ⟨by rfl, rfl⟩) s5 ?_
          (try simp only [Act.put, List.setIfInBounds_toArray, List.set_cons_zero, List.set_cons_succ])
          refine wpAnyH_val (i := 13) (v := undef) (d := some 37) rfl rfl (by kernel_rfl) (by kernel_rfl) (by kernel_rfl) (fun _ _ _ h => h) (Or.inr ⟨by rfl, rfl⟩) s5 ?_
          (try simp only [Act.put, List.setIfInBounds_toArray, List.set_cons_zero, List.set_cons_succ])
          refine wpAnyH_val (i := 14) (v := undef) (d := some 38) rfl rfl (by kernel_rfl) (by kernel_rfl) (by kernel_rfl) (fun _ _ _ h => h) (Or.inr ⟨by rfl, rfl⟩) s5 ?_
          (try simp only [Act.put, List.setIfInBounds_toArray, List.set_cons_zero, List.set_cons_succ])
          refine wpAnyH_val (i := 15) (v := undef) (d := some 39) rfl rfl (by kernel_rfl) (by kernel_rfl) (by kernel_rfl) (fun _ _ _ h => h) (Or.inr ⟨by rfl, rfl⟩) s5 ?_
          (try simp only [Act.put, List.setIfInBounds_toArray, List.set_cons_zero, List.set_cons_succ])
          refine wpAnyH_val (i := 16) (v := undef) (d := some 40) rfl rfl (by kernel_rfl) (by kernel_rfl) (by kernel_rfl) (fun _ _ _ h => h) (Or.inr ⟨by rfl, rfl⟩) s5 ?_
          (try simp only [Act.put, List.setIfInBounds_toArray, List.set_cons_zero, List.set_cons_succ])
          refine wpAnyH_val (i := 17) (v := undef) (d := some 41) rfl rfl (by kernel_rfl) (by kernel_rfl) (by kernel_rfl) (fun _ _ _ h => h) (Or.inr ⟨by rfl, rfl⟩) s5 ?_
          (try simp only [Act.put, List.setIfInBounds_toArray, List.set_cons_zero, List.set_cons_succ])
          refine wpAnyH_val (i := 18) (v := undef) (d := some 42) rfl rfl (by kernel_rfl) (by kernel_rfl) (by kernel_rfl) (fun _ _ _ h => h) (Or.inr ⟨by rfl, rfl⟩) s5 ?_
          (try simp only [Act.put, List.setIfInBounds_toArray, List.set_cons_zero, List.set_cons_succ])
          refine wpAnyH_val (i := 19) (v := undef) (d := some 43) rfl rfl (by kernel_rfl) (by kernel_rfl) (by kernel_rfl) (fun _ _ _ h => h) (Or.inr ⟨by rfl, rfl⟩) s5 ?_
          (try simp only [Act.put, List.setIfInBounds_toArray, List.set_cons_zero, List.set_cons_succ])
          refine wpAnyH_val (i := 20) (v := undef) (d := some 44) rfl rfl (by kernel_rfl) (by kernel_rfl) (by kernel_rfl) (fun _ _ _ h => h) (Or.inr ⟨by rfl, rfl⟩) s5 ?_
          (try simp only [Act.put, List.setIfInBounds_toArray, List.set_cons_zero, List.set_cons_succ])
          refine wpAnyH_val (i := 21) (v := undef) (d := some 45) rfl rfl (by kernel_rfl) (by kernel_rfl) (by kernel_rfl) (fun _ _ _ h => h) (Or.inr ⟨by rfl, rfl⟩) s5 ?_
          (try simp only [Act.put, List.setIfInBounds_toArray, List.set_cons_zero, List.set_cons_succ])
          refine wpAnyH_val (i := 22) (v := undef) (d := some 46) rfl rfl (by kernel_rfl) (by kernel_rfl) (by kernel_rfl) (fun _ _ _ h => h) (Or.inr ⟨by rfl, rfl⟩) s5 ?_
          (try simp only [Act.put, List.setIfInBounds_toArray, List.set_cons_zero, List.set_cons_succ])
          refine wpAnyH_val (i := 23) (v := .bool true) (d := some 47) rfl rfl (by kernel_rfl) (by kernel_rfl) (by kernel_rfl) (fun _ _ _ h => h) (Or.inl ⟨by rfl, fun w hS => by (obtain ⟨h0, h1, h2⟩ := hS; go_simp)⟩) s5 ?_
          (try simp only [Act.put, List.setIfInBounds_toArray, List.set_cons_zero, List.set_cons_succ])
          refine wpAnyH_done (by kernel_rfl) ?_ _
          go_wp2_with fail
          go_meet
          case rel => exact ⟨rfl, 1, rfl⟩
        · have hfe : decide ((mn : Int) ≤ F) = fv := by rw [HFV.out]; congr 1; simp [hf0]
          refine wp_region_H (S := fun wz => wz.cell? ⟨gb, 2, none⟩ = some (.int .i64 F) ∧ wz.cell? ⟨b, o + i * 2 + 1, none⟩ = some (.slice (some ⟨b2, o2', none⟩) xn xc) ∧ wz.cell? ⟨b2, o2' + j * 2 + 1, none⟩ = some (.slice mA mn mc)) (by kernel_rfl) ?_
          refine wpAnyH_val (i := 0) (v := .int .i64 j) (d := some 24) rfl rfl (by kernel_rfl) (by kernel_rfl) (by kernel_rfl) (fun _ _ _ h => h) (Or.inl ⟨by rfl, fun w hS => by (obtain ⟨h0, h1, h2⟩ := hS; go_simp)⟩) s5 ?_
          (try simp only [Act.put, List.setIfInBounds_toArray, List.set_cons_zero, List.set_cons_succ])
          refine wpAnyH_val (i := 1) (v := .bool false) (d := some 25) rfl rfl (by kernel_rfl) (by kernel_rfl) (by kernel_rfl) (fun _ _ _ h => h) (Or.inl ⟨by rfl, fun w hS => by (obtain ⟨h0, h1, h2⟩ := hS; go_simp)⟩) s5 ?_
          (try simp only [Act.put, List.setIfInBounds_toArray, List.set_cons_zero, List.set_cons_succ])
          refine wpAnyH_val (i := 2) (v := .bool false) (d := some 26) rfl rfl (by kernel_rfl) (by kernel_rfl) (by kernel_rfl) (fun _ _ _ h => h) (Or.inl ⟨by rfl, fun w hS => by (obtain ⟨h0, h1, h2⟩ := hS; go_simp)⟩) s5 ?_
          (try simp only [Act.put, List.setIfInBounds_toArray, List.set_cons_zero, List.set_cons_succ])
          refine wpAnyH_val (i := 3) (v := .pointer (some ⟨gb, 1, none⟩)) (d := some 27) rfl rfl (by kernel_rfl) (by kernel_rfl) (by kernel_rfl) (fun _ _ _ h => h) (Or.inl ⟨by rfl, fun w hS => by (obtain ⟨h0, h1, h2⟩ := hS; go_simp)⟩) s5 ?_
          (try simp only [Act.put, List.setIfInBounds_toArray, List.set_cons_zero, List.set_cons_succ])
          refine wpAnyH_val (i := 4) (v := .pointer (some ⟨gb, 2, none⟩)) (d := some 28) rfl rfl (by kernel_rfl) (by kernel_rfl) (by kernel_rfl) (fun _ _ _ h => h) (Or.inl ⟨by rfl, fun w hS => by (obtain ⟨h0, h1, h2⟩ := hS; go_simp)⟩) s5 ?_
          (try simp only [Act.put, List.setIfInBounds_toArray, List.set_cons_zero, List.set_cons_succ])
          refine wpAnyH_val (i := 5) (v := .int .i64 F) (d := some 29) rfl rfl (by kernel_rfl) (by kernel_rfl) (by kernel_rfl) (fun _ _ _ h => h) (Or.inl ⟨by rfl, fun w hS => by (obtain ⟨h0, h1, h2⟩ := hS; go_simp)⟩) s5 ?_
          (try simp only [Act.put, List.setIfInBounds_toArray, List.set_cons_zero, List.set_cons_succ])
          refine wpAnyH_val (i := 6) (v := .bool false) (d := some 30) rfl rfl (by kernel_rfl) (by kernel_rfl) (by kernel_rfl) (fun _ _ _ h => h) (Or.inl ⟨by rfl, fun w hS => by (obtain ⟨h0, h1, h2⟩ := hS; go_simp)⟩) s5 ?_
          (try simp only [Act.put, List.setIfInBounds_toArray, List.set_cons_zero, List.set_cons_succ])
          refine wpAnyH_val (i := 7) (v := .bool false) (d := some 31) rfl rfl (by kernel_rfl) (by kernel_rfl) (by kernel_rfl) (fun _ _ _ h => h) (Or.inl ⟨by rfl, fun w hS => by (obtain ⟨h0, h1, h2⟩ := hS; go_simp)⟩) s5 ?_
          (try simp only [Act.put, List.setIfInBounds_toArray, List.set_cons_zero, List.set_cons_succ])
          refine wpAnyH_val (i := 8) (v := .bool false) (d := some 32) rfl rfl (by kernel_rfl) (by kernel_rfl) (by kernel_rfl) (fun _ _ _ h => h) (Or.inl ⟨by rfl, fun w hS => by (obtain ⟨h0, h1, h2⟩ := hS; go_simp)⟩) s5 ?_
          (try simp only [Act.put, List.setIfInBounds_toArray, List.set_cons_zero, List.set_cons_succ])
          refine wpAnyH_val (i := 9) (v := .pointer (some ⟨gb, 1, none⟩)) (d := some 33) rfl rfl (by kernel_rfl) (by kernel_rfl) (by kernel_rfl) (fun _ _ _ h => h) (Or.inl ⟨by rfl, fun w hS => by (obtain ⟨h0, h1, h2⟩ := hS; go_simp)⟩) s5 ?_
          (try simp only [Act.put, List.setIfInBounds_toArray, List.set_cons_zero, List.set_cons_succ])
          refine wpAnyH_val (i := 10) (v := .pointer (some ⟨gb, 2, none⟩)) (d := some 34) rfl rfl (by kernel_rfl) (by kernel_rfl) (by kernel_rfl) (fun _ _ _ h => h) (Or.inl ⟨by rfl, fun w hS => by (obtain ⟨h0, h1, h2⟩ := hS; go_simp)⟩) s5 ?_
          (try simp only [Act.put, List.setIfInBounds_toArray, List.set_cons_zero, List.set_cons_succ])
          refine wpAnyH_val (i := 11) (v := .int .i64 F) (d := some 35) rfl rfl (by kernel_rfl) (by kernel_rfl) (by kernel_rfl) (fun _ _ _ h => h) (Or.inl ⟨by rfl, fun w hS => by (obtain ⟨h0, h1, h2⟩ := hS; go_simp)⟩) s5 ?_
          (try simp only [Act.put, List.setIfInBounds_toArray, List.set_cons_zero, List.set_cons_succ])
          refine wpAnyH_val (i := 12) (v := .slice (some ⟨b, o, none⟩) n c) (d := some 36) rfl rfl (by kernel_rfl) (by kernel_rfl) (by kernel_rfl) (fun _ _ _ h => h) (Or.inl ⟨by rfl, fun w hS => by (obtain ⟨h0, h1, h2⟩ := hS; go_simp)⟩) s5 ?_
          (try simp only [Act.put, List.setIfInBounds_toArray, List.set_cons_zero, List.set_cons_succ])
          refine wpAnyH_val (i := 13) (v := .int .i64 i) (d := some 37) rfl rfl (by kernel_rfl) (by kernel_rfl) (by kernel_rfl) (fun _ _ _ h => h) (Or.inl ⟨by rfl, fun w hS => by (obtain ⟨h0, h1, h2⟩ := hS; go_simp)⟩) s5 ?_
          (try simp only [Act.put, List.setIfInBounds_toArray, List.set_cons_zero, List.set_cons_succ])
          refine wpAnyH_val (i := 14) (v := .pointer (some ⟨b, o + i * 2, none⟩)) (d := some 38) rfl rfl (by kernel_rfl) (by kernel_rfl) (by kernel_rfl) (fun _ _ _ h => h) (Or.inl ⟨by rfl, fun w hS => by (obtain ⟨h0, h1, h2⟩ := hS; go_simp)⟩) s5 ?_
          (try simp only [Act.put, List.setIfInBounds_toArray, List.set_cons_zero, List.set_cons_succ])
          refine wpAnyH_val (i := 15) (v := .pointer (some ⟨b, o + i * 2 + 1, none⟩)) (d := some 39) rfl rfl (by kernel_rfl) (by kernel_rfl) (by kernel_rfl) (fun _ _ _ h => h) (Or.inl ⟨by rfl, fun w hS => by (obtain ⟨h0, h1, h2⟩ := hS; go_simp)⟩) s5 ?_
          (try simp only [Act.put, List.setIfInBounds_toArray, List.set_cons_zero, List.set_cons_succ])
          refine wpAnyH_val (i := 16) (v := .slice (some ⟨b2, o2', none⟩) xn xc) (d := some 40) rfl rfl (by kernel_rfl) (by kernel_rfl) (by kernel_rfl) (fun _ _ _ h => h) (Or.inl ⟨by rfl, fun w hS => by (obtain ⟨h0, h1, h2⟩ := hS; go_simp)⟩) s5 ?_
          (try simp only [Act.put, List.setIfInBounds_toArray, List.set_cons_zero, List.set_cons_succ])
          refine wpAnyH_val (i := 17) (v := .int .i64 j) (d := some 41) rfl rfl (by kernel_rfl) (by kernel_rfl) (by kernel_rfl) (fun _ _ _ h => h) (Or.inl ⟨by rfl, fun w hS => by (obtain ⟨h0, h1, h2⟩ := hS; go_simp)⟩) s5 ?_
          (try simp only [Act.put, List.setIfInBounds_toArray, List.set_cons_zero, List.set_cons_succ])
          refine wpAnyH_val (i := 18) (v := .pointer (some ⟨b2, o2' + j * 2, none⟩)) (d := some 42) rfl rfl (by kernel_rfl) (by kernel_rfl) (by kernel_rfl) (fun _ _ _ h => h) (Or.inl ⟨by rfl, fun w hS => by (obtain ⟨h0, h1, h2⟩ := hS; go_simp)⟩) s5 ?_
          (try simp only [Act.put, List.setIfInBounds_toArray, List.set_cons_zero, List.set_cons_succ])
          refine wpAnyH_val (i := 19) (v := .pointer (some ⟨b2, o2' + j * 2 + 1, none⟩)) (d := some 43) rfl rfl (by kernel_rfl) (by kernel_rfl) (by kernel_rfl) (fun _ _ _ h => h) (Or.inl ⟨by rfl, fun w hS => by (obtain ⟨h0, h1, h2⟩ := hS; go_simp)⟩) s5 ?_
          (try simp only [Act.put, List.setIfInBounds_toArray, List.set_cons_zero, List.set_cons_succ])
          refine wpAnyH_val (i := 20) (v := .slice mA mn mc) (d := some 44) rfl rfl (by kernel_rfl) (by kernel_rfl) (by kernel_rfl) (fun _ _ _ h => h) (Or.inl ⟨by rfl, fun w hS => by (obtain ⟨h0, h1, h2⟩ := hS; go_simp)⟩) s5 ?_
          (try simp only [Act.put, List.setIfInBounds_toArray, List.set_cons_zero, List.set_cons_succ])
          refine wpAnyH_val (i := 21) (v := .int .i64 mn) (d := some 45) rfl rfl (by kernel_rfl) (by kernel_rfl) (by kernel_rfl) (fun _ _ _ h => h) (Or.inl ⟨by rfl, fun w hS => by (obtain ⟨h0, h1, h2⟩ := hS; go_simp)⟩) s5 ?_
          (try simp only [Act.put, List.setIfInBounds_toArray, List.set_cons_zero, List.set_cons_succ])
          refine wpAnyH_val (i := 22) (v := .bool fv) (d := some 46) rfl rfl (by kernel_rfl) (by kernel_rfl) (by kernel_rfl) (fun _ _ _ h => h) (Or.inl ⟨by rfl, fun w hS => by (obtain ⟨h0, h1, h2⟩ := hS; go_simp)⟩) s5 ?_
          (try simp only [Act.put, List.setIfInBounds_toArray, List.set_cons_zero, List.set_cons_succ])
          refine wpAnyH_val (i := 23) (v := .bool fv) (d := some 47) rfl rfl (by kernel_rfl) (by kernel_rfl) (by kernel_rfl) (fun _ _ _ h => h) (Or.inl ⟨by rfl, fun w hS => by (obtain ⟨h0, h1, h2⟩ := hS; go_simp)⟩) s5 ?_
          (try simp only [Act.put, List.setIfInBounds_toArray, List.set_cons_zero, List.set_cons_succ])
          refine wpAnyH_done (by kernel_rfl) ?_ _
          go_wp2_with fail
          go_meet
          case rel => exact ⟨rfl, 1, rfl⟩
      case rest =>
        obtain ⟨rfl, q, rfl⟩ := hcut
        have hbq : Below w3.heap.size w3 (w3.drewN q) := below_drewN (Below.refl _ _) q
        have HB4 : Hid (Below w.heap.size w (w3.drewN q)) := Lib.hid (below_drewN HB3.out q)
        have HX4 : Hid (BtOk (w3.drewN q) B x) := Lib.hid (HX3.out.below (hbq.mono (by have := HB3.out.size; omega)))
        have HOV4 : Hid (OvB (w3.drewN q) gb pA pn pc path K F V) := Lib.hid (HOV3.out.below hbq)
        have s0 : (w3.drewN q).cell? ⟨b, o + i * 2 + 1, none⟩ = some (.slice (some ⟨b2, o2', none⟩) xn xc) := p1
        have s1 : (w3.drewN q).cell? ⟨b2, o2' + j * 2 + 1, none⟩ = some (.slice mA mn mc) := r1
        have hbb4 : b < (w3.drewN q).heap.size := by show b < w3.heap.size; have := HB3.out.size; omega
        have hb24 : b2 < (w3.drewN q).heap.size := by show b2 < w3.heap.size; have := HB3.out.size; omega
        obtain ⟨w4, hw4⟩ : ∃ w4, w4 = w3.drewN q := ⟨_, rfl⟩
        rw [← hw4] at HB4 HX4 HOV4 s0 s1 hbb4 hb24 ⊢
        clear hbq p0 p1 o1 o2 o3 r0 r1 hw4 HX3 HOV3 HB3
        cases fv with
        | true =>
          have hRf : R = 4 := by rw [HRR.out, if_pos (by have h9 := of_decide_eq_true HFV.out.symm; rw [HM.out.1, HML.out] at h9; exact h9)]
          have HRF := Lib.hid hRf
          clear hRf
          go_wp2_with fail
          go_ret
          exact ⟨by rw [HRF.out]; rfl, .inl ⟨by rw [HRF.out]; decide, HB4.out⟩⟩
        | false =>
          have hf9 : ¬ (F < 0 ∨ (mn : Int) ≤ F) := of_decide_eq_false HFV.out.symm
          obtain ⟨f, hf⟩ : ∃ f : Nat, F = f := ⟨F.toNat, by omega⟩
          have hfm : f < mn := by omega
          obtain ⟨⟨kk, hkk, hkl⟩, hsm⟩ := HVAL.out x (List.mem_of_getElem? HX.out.1) cm (List.mem_of_getElem? HC.out.1)
          have hKk : K = (kk : Int) := by rw [← HC.out.2.1]; exact hkk
          have hkn : kk < kn := by have := HK.out.len; omega
          obtain ⟨kd, hkd⟩ : ∃ kd, ks[kk]? = some kd := ⟨_, List.getElem?_eq_getElem hkl⟩
          have hfz : (f : Int) < mn := by omega
          have hfz0 : (0 : Int) ≤ f := by omega
          have hkz : (kk : Int) < kn := by omega
          have hkz0 : (0 : Int) ≤ kk := by omega
          have hrr : R = fitV (ks.map Kd.p) K (cm.vals.set F.toNat V) := by rw [HRR.out, if_neg (by rw [← HML.out, ← HM.out.1]; exact hf9)]
          obtain ⟨FT, hFT⟩ : ∃ FT, FT = fitF kd.nm kd.fds (cm.vals.set f V) := ⟨_, rfl⟩
          have hrr2 : R = if FT.2 ≠ 0 then FT.2 else if FT.1 ≠ cm.vals.set f V then 1 else 0 := by
            rw [hrr, hKk, hf]; unfold fitV
            rw [Int.toNat_natCast, Int.toNat_natCast, List.getElem?_map, hkd, hFT]; rfl
          have hcl := cloneInts_any mA mn mc B (cm.vals.map (Value.int .i64)) w4 (by rw [HM.out.1, HM.out.2.1]; exact (HX4.out.cs.ok cm (List.mem_of_getElem? HC.out.1)).rd) (fun u hu => by obtain ⟨z, _, rfl⟩ := List.mem_map.1 hu; rfl) (by have := HB4.out.size; omega) (by rw [HM.out.1]; omega)
          have HCL := Lib.hid hcl
          have HRX := Lib.hid hrr2
          have HFT := Lib.hid (And.intro hFT (And.intro hkd (And.intro hKk hf)))
          clear hf9 hkk hkl hsm hrr hrr2 hFT hkd hcl
          have hKc := HOV4.out.bk.cell 1
          go_wp2_with fail
          with_reducible refine (HCL.out).mono ?_
          clear HCL
          rintro e w5 ⟨A5, c5, rfl, hown5, hb5⟩
          obtain ⟨g, c5', hv5, hg5, hg5'⟩ := hown5.form (by omega)
          injection hv5 with hv5 _ hc5
          subst hv5 hc5
          have hz4 : w.heap.size ≤ w4.heap.size := HB4.out.size
          have hz5 : w4.heap.size ≤ w5.heap.size := hb5.size
          have hb05 : Below w.heap.size w w5 := HB4.out.trans (hb5.mono hz4)
          have hov5 := HOV4.out.below hb5
          obtain ⟨ocs, hbk5⟩ := own_ty hown5 rfl
          obtain ⟨fx, hfx⟩ : ∃ fx, cm.vals[f]? = some fx := ⟨_, List.getElem?_eq_getElem (by have := HM.out.1; have := HML.out; omega)⟩
          have o1 : w5.cell? ⟨gb, 1, none⟩ = some (.int .i64 kk) := by rw [← HFT.out.2.2.1]; exact hov5.bk.cell 1
          have o2 : w5.cell? ⟨gb, 2, none⟩ = some (.int .i64 f) := by rw [← HFT.out.2.2.2]; exact hov5.bk.cell 2
          have o3 : w5.cell? ⟨gb, 3, none⟩ = some (.int .i64 V) := hov5.bk.cell 3
          have e5 : w5.cell? ⟨g, f, none⟩ = some (.int .i64 fx) := by
            have h1 := (Rd.of_own hown5).2 (by omega)
            obtain ⟨gg, oo, e1, _, h2⟩ := h1
            injection e1 with e1
            injection e1 with e1 e2
            subst e1 e2
            have h3 := h2 f (.int .i64 fx) (by rw [List.getElem?_map, hfx]; rfl)
            rwa [Nat.zero_add] at h3
          have f5 := hbk5.frozen f
          obtain ⟨w6, hw6⟩ : ∃ w6, w6 = w5.setCell ⟨g, f, none⟩ (.int .i64 V) := ⟨_, rfl⟩
          have hne : gb ≠ g := by have := HOV4.out.bk.lt; omega
          have hb06 : Below w.heap.size w w6 := by rw [hw6]; exact hb05.setCell (p := ⟨g, f, none⟩) (by show w.heap.size ≤ g; omega) _
          have hown6 : w6.ownsRow w.heap.size 3 1 (.slice (some ⟨g, 0, none⟩) mn c5) mn ((cm.vals.set f V).map (Value.int .i64)) := by
            rw [hw6, List.map_set]; exact own_monoP (own_setJ hown5 hfm _) hz4
          have p1 : w6.cell? ⟨gb, 1, none⟩ = some (.int .i64 kk) := by rw [hw6]; exact ((hov5.bk.far (p := ⟨g, f, none⟩) hne _).cell 1).trans (by rw [← HFT.out.2.2.1]; rfl)
          have hkw6 := HK.out.below (hb06.mono hB)
          obtain ⟨kb, ko, rfl, hkb, k0, k1⟩ := hkw6.rd.kd hkn HFT.out.2.1
          have hko := hkw6.ok kd (List.mem_of_getElem? HFT.out.2.1)
          have hzB6 : B ≤ w6.heap.size := by have := hb06.size; omega
          have hfit := fit_any kd.nm kd.A kd.n kd.c kd.fds (some ⟨g, 0, none⟩) mn c5 w6.heap.size (cm.vals.set f V) w6 (hko.rd.more hzB6) hko.len hko.cap hko.cap2 (Rd.of_own hown6) (by rw [List.length_set, ← HML.out]; exact HM.out.1) (own_cap2 hown6).1 (own_cap2 hown6).2 (Nat.le_refl _)
          rw [← HFT.out.1] at hfit
          have HFIT := Lib.hid hfit
          have HW6 := Lib.hid hw6
          have HO6 := Lib.hid hown6
          have HB6 := Lib.hid hb06
          have hbw : b < w.heap.size := by omega
          have hb2w : b2 < w.heap.size := by omega
          have t0 : w6.cell? ⟨b, o + i * 2 + 1, none⟩ = some (.slice (some ⟨b2, o2', none⟩) xn xc) := (World.cell?_of_block (w := w) (hb06.block b hbw)).trans ((World.cell?_of_block (w := w) (HB4.out.block b hbw)).symm.trans s0)
          have t1 : w6.cell? ⟨b2, o2' + j * 2 + 1, none⟩ = some (.slice mA mn mc) := (World.cell?_of_block (w := w) (hb06.block b2 hb2w)).trans ((World.cell?_of_block (w := w) (HB4.out.block b2 hb2w)).symm.trans s1)
          obtain ⟨br, or_, cr, hcr, hbr⟩ := HROW.out x (List.mem_of_getElem? HX.out.1) (by have := (List.getElem?_eq_some_iff.1 HC.out.1).1; have := HXO.out.cs.len; omega)
          rw [HCA.out] at hcr
          injection hcr with hcr
          injection hcr with hcr hcr2
          subst hcr hcr2
          have HBR := Lib.hid hbr
          have HT := Lib.hid (And.intro t0 t1)
          generalize kd.nm = dn at *
          generalize kd.A = dA at *
          generalize kd.n = dm at *
          generalize kd.c = dc at *
          clear hb5 hb05 hov5 hbk5 hfx hown5 hown6 hb06 hkw6 hko hfit hw6 hKc s0 s1 hbr t0 t1 hz4 hz5 hkb
          go_upto_region 9 with fail
          rw [← HW6.out]
          clear o1 o2 o3 e5 f5
          go_wp2_with fail
          with_reducible refine (HFIT.out).mono ?_
          clear HFIT
          rintro e w7 ⟨fA, fc, rfl, hown7, hb7⟩
          have HB7 : Hid (Below w.heap.size w w7) := Lib.hid (HB6.out.trans (hb7.mono HB6.out.size))
          by_cases hf2 : FT.2 = 0
          · have hlen7 := own_cap2 hown7
            have heq := equalInts_any fA (some ⟨g, 0, none⟩) FT.1.length fc mn c5 w7.heap.size FT.1 (cm.vals.set f V) w7 rfl (by rw [List.length_set, ← HML.out]; exact HM.out.1) (Nat.le_trans hlen7.1 hlen7.2) (Rd.of_own hown7) (((Rd.of_own HO6.out).below hb7).more hb7.size)
            have HO7 : Hid (w7.ownsRow w.heap.size 3 1 (.slice (some ⟨g, 0, none⟩) mn c5) mn ((cm.vals.set f V).map (Value.int .i64))) := Lib.hid (own_keepB HO6.out fun q hq => hb7.block q (by have := HO6.out.lt q hq; exact this.2))
            obtain ⟨eb, heb⟩ : ∃ eb, eb = decide (FT.1 = cm.vals.set f V) := ⟨_, rfl⟩
            rw [← heb] at heq
            have HEQ := Lib.hid heq
            have HEB := Lib.hid heb
            have t0 : w7.cell? ⟨b, o + i * 2 + 1, none⟩ = some (.slice (some ⟨b2, o2', none⟩) xn xc) := (World.cell?_of_block (w := w6) (hb7.block b (by have := HB6.out.size; omega))).trans HT.out.1
            have t1 : w7.cell? ⟨b2, o2' + j * 2 + 1, none⟩ = some (.slice mA mn mc) := (World.cell?_of_block (w := w6) (hb7.block b2 (by have := HB6.out.size; omega))).trans HT.out.2
            have tf : w7.frozen? ⟨b2, o2' + j * 2 + 1, none⟩ = false := (HBR.out.below HB7.out hb2w).frozen _
            clear heq heb hown7 hlen7
            rw [hf2]
            have hRR : R = if FT.1 ≠ cm.vals.set f V then 1 else 0 := by rw [HRX.out, if_neg (by omega)]
            have HRR2 := Lib.hid hRR
            clear hf2 hRR
            go_wp2_with fail
            with_reducible refine (HEQ.out).mono ?_
            clear HEQ
            rintro e w8 ⟨rfl, m8, rfl⟩
            cases eb with
            | false =>
              have hRf : R = 1 := by rw [HRR2.out, if_pos (of_decide_eq_false HEB.out.symm)]
              have HRF := Lib.hid hRf
              clear hRf
              go_wp2_with fail
              go_ret
              exact ⟨by rw [HRF.out]; rfl, .inl ⟨by rw [HRF.out]; decide, below_drewN HB7.out m8⟩⟩
            | true =>
              have hRf : R = 0 := by rw [HRR2.out, if_neg (by rw [← of_decide_eq_true HEB.out.symm]; simp)]
              have HRF := Lib.hid hRf
              clear hRf
              have u0 : (w7.drewN m8).cell? ⟨b, o + i * 2 + 1, none⟩ = some (.slice (some ⟨b2, o2', none⟩) xn xc) := t0
              have u1 : (w7.drewN m8).cell? ⟨b2, o2' + j * 2 + 1, none⟩ = some (.slice mA mn mc) := t1
              have uf : (w7.drewN m8).frozen? ⟨b2, o2' + j * 2 + 1, none⟩ = false := tf
              have HB8 : Hid (Below w.heap.size w (w7.drewN m8)) := Lib.hid (below_drewN HB7.out m8)
              have HO8 : Hid ((w7.drewN m8).ownsRow w.heap.size 3 1 (.slice (some ⟨g, 0, none⟩) mn c5) mn ((cm.vals.set f V).map (Value.int .i64))) := HO7
              generalize w7.drewN m8 = w8 at *
              go_wp2_with fail
              go_ret
              refine ⟨by rw [HRF.out]; rfl, .inr ⟨HRF.out, i, j, x, cm, g, c5, b2, o2', w8, HX.out.1, HX.out.2.1, HX.out.2.2, HC.out.1, HC.out.2.1, HC.out.2.2, by rw [HFT.out.2.2.2]; omega, by rw [HFT.out.2.2.2, ← HML.out, ← HM.out.1]; omega, HCA.out, ?_, HB8.out, ?_⟩⟩
              · rw [← HM.out.1, HFT.out.2.2.2, Int.toNat_natCast]; exact HO8.out
              · rw [← HM.out.1]
          · have hRf : R = FT.2 := by rw [HRX.out, if_pos hf2]
            have HRF := Lib.hid hRf
            have HF2 := Lib.hid hf2
            clear hRf
            go_wp2_with fail
            go_ret
            exact ⟨by rw [HRF.out]; rfl, .inl ⟨by rw [HRF.out]; exact HF2.out, HB7.out⟩⟩
    · rw [hj]
      have hRf : R = 4 := by
        rw [HR.out]; unfold ovCode
        rw [HXF.out]
        show (match (x.cms.map Cm.p).find? (fun c => decide (c.1 = K)) with | none => (4 : Int) | some c => if F < 0 ∨ (c.2.length : Int) ≤ F then 4 else fitV (ks.map Kd.p) K (c.2.set F.toNat V)) = _
        rw [find_no (f := Cm.p) (p := fun c => decide (c.1 = K)) hno]
      have HRF := Lib.hid hRf
      clear hno hj hRf hx3
      go_upto_if 47 with fail
      go_cut [47] from 24 to 46 (fun bv wx => bv = .bool true ∧ ∃ q, w3.drewN q = wx)
      case first =>
        have s5 : w3.drew.cell? ⟨gb, 2, none⟩ = some (.int .i64 F) ∧ True := ⟨o2, trivial⟩
        refine wp_region_H (S := fun wz => wz.cell? ⟨gb, 2, none⟩ = some (.int .i64 F) ∧ True) (by kernel_rfl) ?_
        refine wpAnyH_val (i := 0) (v := .int .i64 (-1)) (d := some 24) rfl rfl (by kernel_rfl) (by kernel_rfl) (by kernel_rfl) (fun _ _ _ h => h) (Or.inl ⟨by rfl, fun w hS => by (obtain ⟨h0, h1⟩ := hS; go_simp)⟩) s5 ?_
        (try simp only [Act.put, List.setIfInBounds_toArray, List.set_cons_zero, List.set_cons_succ])
        refine wpAnyH_val (i := 1) (v := .bool true) (d := some 25) rfl rfl (by kernel_rfl) (by kernel_rfl) (by kernel_rfl) (fun _ _ _ h => h) (Or.inl ⟨by rfl, fun w hS => by (obtain ⟨h0, h1⟩ := hS; go_simp)⟩) s5 ?_
        (try simp only [Act.put, List.setIfInBounds_toArray, List.set_cons_zero, List.set_cons_succ])
        refine wpAnyH_val (i := 2) (v := .bool true) (d := some 26) rfl rfl (by kernel_rfl) (by kernel_rfl) (by kernel_rfl) (fun _ _ _ h => h) (Or.inl ⟨by rfl, fun w hS => by (obtain ⟨h0, h1⟩ := hS; go_simp)⟩) s5 ?_
        (try simp only [Act.put, List.setIfInBounds_toArray, List.set_cons_zero, List.set_cons_succ])
        refine wpAnyH_val (i := 3) (v := undef) (d := some 27) rfl rfl (by kernel_rfl) (by kernel_rfl) (by kernel_rfl) (fun _ _ _ h => h) (Or.inr ⟨by rfl, rfl⟩) s5 ?_
        (try simp only [Act.put, List.setIfInBounds_toArray, List.set_cons_zero, List.set_cons_succ])
        refine wpAnyH_val (i := 4) (v := undef) (d := some 28) rfl rfl (by kernel_rfl) (by kernel_rfl) (by kernel_rfl) (fun _ _ _ h => h) (Or.inr ⟨by rfl, rfl⟩) s5 ?_
        (try simp only [Act.put, List.setIfInBounds_toArray, List.set_cons_zero, List.set_cons_succ])
        refine wpAnyH_val (i := 5) (v := undef) (d := some 29) rfl rfl (by kernel_rfl) (by kernel_rfl) (by kernel_rfl) (fun _ _ _ h => h) (Or.inr ⟨by rfl, rfl⟩) s5 ?_
        (try simp only [Act.put, List.setIfInBounds_toArray, List.set_cons_zero, List.set_cons_succ])
        refine wpAnyH_val (i := 6) (v := undef) (d := some 30) rfl rfl (by kernel_rfl) (by kernel_rfl) (by kernel_rfl) (fun _ _ _ h => h) (Or.inr ⟨by rfl, rfl⟩) s5 ?_
        (try simp only [Act.put, List.setIfInBounds_toArray, List.set_cons_zero, List.set_cons_succ])
        refine wpAnyH_val (i := 7) (v := .bool true) (d := some 31) rfl rfl (by kernel_rfl) (by kernel_rfl) (by kernel_rfl) (fun _ _ _ h => h) (Or.inl ⟨by rfl, fun w hS => by (obtain ⟨h0, h1⟩ := hS; go_simp)⟩) s5 ?_
        (try simp only [Act.put, List.setIfInBounds_toArray, List.set_cons_zero, List.set_cons_succ])
        refine wpAnyH_val (i := 8) (v := .bool true) (d := some 32) rfl rfl (by kernel_rfl) (by kernel_rfl) (by kernel_rfl) (fun _ _ _ h => h) (Or.inl ⟨by rfl, fun w hS => by (obtain ⟨h0, h1⟩ := hS; go_simp)⟩) s5 ?_
        (try simp only [Act.put, List.setIfInBounds_toArray, List.set_cons_zero, List.set_cons_succ])
        refine wpAnyH_val (i := 9) (v := undef) (d := some 33) rfl rfl (by kernel_rfl) (by kernel_rfl) (by kernel_rfl) (fun _ _ _ h => h) (Or.inr ⟨by rfl, rfl⟩) s5 ?_
        (try simp only [Act.put, List.setIfInBounds_toArray, List.set_cons_zero, List.set_cons_succ])
        refine wpAnyH_val (i := 10) (v := undef) (d := some 34) rfl rfl (by kernel_rfl) (by kernel_rfl) (by kernel_rfl) (fun _ _ _ h => h) (Or.inr ⟨by rfl, rfl⟩) s5 ?_
        (try simp only [Act.put, List.setIfInBounds_toArray, List.set_cons_zero, List.set_cons_succ])
        refine wpAnyH_val (i := 11) (v := undef) (d := some 35) rfl rfl (by kernel_rfl) (by kernel_rfl) (by kernel_rfl) (fun _ _ _ h => h) (Or.inr ⟨by rfl, rfl⟩) s5 ?_
        (try simp only [Act.put, List.setIfInBounds_toArray, List.set_cons_zero, List.set_cons_succ])
        refine wpAnyH_val (i := 12) (v := undef) (d := some 36) rfl rfl (by kernel_rfl) (by kernel_rfl) (by kernel_rfl) (fun _ _ _ h => h) (Or.inr ⟨by rfl, rfl⟩) s5 ?_
        (try simp only [Act.put, List.setIfInBounds_toArray, List.set_cons_zero, List.set_cons_succ])
        refine wpAnyH_val (i := 13) (v := undef) (d := some 37) rfl rfl (by kernel_rfl) (by kernel_rfl) (by kernel_rfl) (fun _ _ _ h => h) (Or.inr ⟨by rfl, rfl⟩) s5 ?_
        (try simp only [Act.put, List.setIfInBounds_toArray, List.set_cons_zero, List.set_cons_succ])
        refine wpAnyH_val (i := 14) (v := undef) (d := some 38) rfl rfl (by kernel_rfl) (by kernel_rfl) (by kernel_rfl) (fun _ _ _ h => h) (Or.inr ⟨by rfl, rfl⟩) s5 ?_
        (try simp only [Act.put, List.setIfInBounds_toArray, List.set_cons_zero, List.set_cons_succ])
        refine wpAnyH_val (i := 15) (v := undef) (d := some 39) rfl rfl (by kernel_rfl) (by kernel_rfl) (by kernel_rfl) (fun _ _ _ h => h) (Or.inr ⟨by rfl, rfl⟩) s5 ?_
        (try simp only [Act.put, List.setIfInBounds_toArray, List.set_cons_zero, List.set_cons_succ])
        refine wpAnyH_val (i := 16) (v := undef) (d := some 40) rfl rfl (by kernel_rfl) (by kernel_rfl) (by kernel_rfl) (fun _ _ _ h => h) (Or.inr ⟨by rfl, rfl⟩) s5 ?_
        (try simp only [Act.put, List.setIfInBounds_toArray, List.set_cons_zero, List.set_cons_succ])
        refine wpAnyH_val (i := 17) (v := undef) (d := some 41) rfl rfl (by kernel_rfl) (by kernel_rfl) (by kernel_rfl) (fun _ _ _ h => h) (Or.inr ⟨by rfl, rfl⟩) s5 ?_
        (try simp only [Act.put, List.setIfInBounds_toArray, List.set_cons_zero, List.set_cons_succ])
        refine wpAnyH_val (i := 18) (v := undef) (d := some 42) rfl rfl (by kernel_rfl) (by kernel_rfl) (by kernel_rfl) (fun _ _ _ h => h) (Or.inr ⟨by rfl, rfl⟩) s5 ?_
        (try simp only [Act.put, List.setIfInBounds_toArray, List.set_cons_zero, List.set_cons_succ])
        refine wpAnyH_val (i := 19) (v := undef) (d := some 43) rfl rfl (by kernel_rfl) (by kernel_rfl) (by kernel_rfl) (fun _ _ _ h => h) (Or.inr ⟨by rfl, rfl⟩) s5 ?_
        (try simp only [Act.put, List.setIfInBounds_toArray, List.set_cons_zero, List.set_cons_succ])
        refine wpAnyH_val (i := 20) (v := undef) (d := some 44) rfl rfl (by kernel_rfl) (by kernel_rfl) (by kernel_rfl) (fun _ _ _ h => h) (Or.inr ⟨by rfl, rfl⟩) s5 ?_
        (try simp only [Act.put, List.setIfInBounds_toArray, List.set_cons_zero, List.set_cons_succ])
        refine wpAnyH_val (i := 21) (v := undef) (d := some 45) rfl rfl (by kernel_rfl) (by kernel_rfl) (by kernel_rfl) (fun _ _ _ h => h) (Or.inr ⟨by rfl, rfl⟩) s5 ?_
        (try simp only [Act.put, List.setIfInBounds_toArray, List.set_cons_zero, List.set_cons_succ])
        refine wpAnyH_val (i := 22) (v := undef) (d := some 46) rfl rfl (by kernel_rfl) (by kernel_rfl) (by kernel_rfl) (fun _ _ _ h => h) (Or.inr ⟨by rfl, rfl⟩) s5 ?_
        (try simp only [Act.put, List.setIfInBounds_toArray, List.set_cons_zero, List.set_cons_succ])
        refine wpAnyH_val (i := 23) (v := .bool true) (d := some 47) rfl rfl (by kernel_rfl) (by kernel_rfl) (by kernel_rfl) (fun _ _ _ h => h) (Or.inl ⟨by rfl, fun w hS => by (obtain ⟨h0, h1⟩ := hS; go_simp)⟩) s5 ?_
        (try simp only [Act.put, List.setIfInBounds_toArray, List.set_cons_zero, List.set_cons_succ])
        refine wpAnyH_done (by kernel_rfl) ?_ _
        go_wp2_with fail
        go_meet
        case rel => exact ⟨rfl, 1, rfl⟩
      case rest =>
        obtain ⟨rfl, q, rfl⟩ := hcut
        go_wp2_with fail
        go_ret
        exact ⟨by rw [HRF.out]; rfl, .inl ⟨by rw [HRF.out]; decide, below_drewN HB3.out q⟩⟩
  · rw [hi]
    have hRf : R = 4 := by
      rw [HR.out]; unfold ovCode
      rw [find_no (f := Bt.p) (p := fun x => decide (x.1 = path)) hno]
    have HRF := Lib.hid hRf
    clear hno hi hRf
    go_wp2_with fail
    go_ret
    exact ⟨by rw [HRF.out]; rfl, .inl ⟨by rw [HRF.out]; decide, HB2.out⟩⟩
end Go.Proofs.Ytnidcmhfbkdioaa
