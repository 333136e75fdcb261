/-
  The fact of the law MergeSays: two changes of one world are merged. Condition: none.
-/
import Derived.Test.YtnidcmhfbkdioaaOe
import Derived.Test.YtnidcmhfbkdioaaNd
import Derived.BigRegion
namespace Go.Proofs.Ytnidcmhfbkdioaa
open Go.RowKit
set_option maxRecDepth 100000

section
variable {w : World} {g i n : Nat} {A : Option Addr} {xs : List Value} {u v : Value} {cs : Array Value}
theorem bk_put (hb : Bk w g 3 cs) {b : Nat} (h3 : ∃ cs, Bk w b 3 cs) : ∃ cs, Bk (w.setCell ⟨g, i, none⟩ u) b 3 cs := by
  obtain ⟨cs', h5⟩ := h3
  by_cases e : b = g
  · subst e; exact ⟨_, by simpa using h5.set_ i u⟩
  · exact ⟨_, h5.far (p := ⟨g, i, none⟩) e u⟩
theorem RdY.put_ne (h : RdY w 0 3 1 A n xs) (hg : w.cell? ⟨g, i, none⟩ = some v) (hv : v ∉ xs) (hb : Bk w g 3 cs) : RdY (w.setCell ⟨g, i, none⟩ u) 0 3 1 A n xs :=
  ⟨h.1, fun hn => by
    obtain ⟨b, o, h1, h2, h3, h4⟩ := h.2 hn
    refine ⟨b, o, h1, by simpa using h2, .inr (bk_put hb (h3.resolve_left (by omega))), fun j x hx => ?_⟩
    have h6 := h4 j x hx
    rw [← h6]
    refine World.cell?_setCell_other _ _ _ _ (fun e => hv ?_)
    rw [← e, hg] at h6
    injection h6 with h6
    rw [h6]; exact List.mem_of_getElem? hx⟩
theorem RdY.put_far (h : RdY w 0 3 1 A n xs) (hf : ∀ b o, A = some ⟨b, o, none⟩ → b ≠ g) (hb : Bk w g 3 cs) : RdY (w.setCell ⟨g, i, none⟩ u) 0 3 1 A n xs :=
  ⟨h.1, fun hn => by
    obtain ⟨b, o, h1, h2, h3, h4⟩ := h.2 hn
    refine ⟨b, o, h1, by simpa using h2, .inr (bk_put hb (h3.resolve_left (by omega))), fun j x hx => ?_⟩
    rw [← h4 j x hx]
    exact World.cell?_setCell_other _ _ _ _ (fun e => hf b o h1 (by injection e with e; exact e.symm))⟩
theorem RdY.put_at {o : Nat} (h : RdY w 0 3 1 (some ⟨g, o, none⟩) n xs) (hi : i < n) : RdY (w.setCell ⟨g, o + i, none⟩ u) 0 3 1 (some ⟨g, o, none⟩) n (xs.set i u) :=
  ⟨by rw [List.length_set]; exact h.1, fun hn => by
    obtain ⟨b, o', h1, h2, h3, h4⟩ := h.2 hn
    injection h1 with h1
    injection h1 with e1 e2
    subst e1 e2
    obtain ⟨cs', h5⟩ := h3.resolve_left (by omega)
    refine ⟨g, o, rfl, by simpa using h2, .inr (bk_put h5 ⟨_, h5⟩), fun j x hx => ?_⟩
    have hlen : i < xs.length := by have := h.1; omega
    by_cases e : i = j
    · subst e
      rw [List.getElem?_set_self hlen] at hx
      rw [← hx]
      exact World.cell?_setCell_same _ _ _ (h4 i _ (List.getElem?_eq_getElem hlen))
    · rw [List.getElem?_set_ne e] at hx
      rw [← h4 j x hx]
      exact World.cell?_setCell_other _ _ _ _ (by intro e2; injection e2 with _ e2; omega)⟩
end

/-- The world of the fact, with two values. -/
def fw (kA : Option Addr) (kc : Nat) (ks : List Kd) (gA : Option Addr) (gc : Nat) (iA : Option Addr) (ic : Nat) (cA : Option Addr) (cc : Nat) (vA : Option Addr) (vc : Nat) (p q : Int) : Wd :=
  ⟨kA, 1, kc, ks, gA, 1, gc, [0], iA, 1, ic, [⟨0, 0, cA, 1, cc, [⟨0, vA, 2, vc, [p, q]⟩]⟩]⟩
def fp (p q : Int) : Wv Kp2 := ⟨[(k0n, k0f)], [0], [((0, 0), [(0, [p, q])])]⟩
theorem fw_p {kA gA iA cA vA : Option Addr} {kc gc ic cc vc : Nat} {ks : List Kd} {p q : Int} (h : ks.map Kd.p = [(k0n, k0f)]) : (fw kA kc ks gA gc iA ic cA cc vA vc p q).p = fp p q := by
  show (⟨ks.map Kd.p, _, _⟩ : Wv Kp2) = _
  rw [h]; rfl
theorem one_wd {w : World} {a : Wd} {p q : Int} (h : WdY w 0 a) (hp : a.p = fp p q) :
    ∃ kA kc ks gA gc bi oi ic bc oc cc bv ov vc, a = fw kA kc ks gA gc (some ⟨bi, oi, none⟩) ic (some ⟨bc, oc, none⟩) cc (some ⟨bv, ov, none⟩) vc p q ∧ ks.map Kd.p = [(k0n, k0f)] ∧
      w.cell? ⟨bi, oi + 2, none⟩ = some (.slice (some ⟨bc, oc, none⟩) 1 cc) ∧ w.cell? ⟨bc, oc + 1, none⟩ = some (.slice (some ⟨bv, ov, none⟩) 2 vc) ∧ w.cell? ⟨bv, ov, none⟩ = some (.int .i64 p) ∧ w.cell? ⟨bv, ov + 1, none⟩ = some (.int .i64 q) ∧
      bi < w.heap.size ∧ bc < w.heap.size ∧ bv < w.heap.size ∧ (∃ cs, Bk w bv 3 cs) ∧ (∃ cs, Bk w bi 147 cs) ∧ (∃ cs, Bk w bc 166 cs) ∧ 1 ≤ ic ∧ 1 ≤ cc ∧ 2 ≤ vc ∧ ic ≤ 9223372036854775807 ∧ cc ≤ 9223372036854775807 ∧ vc ≤ 9223372036854775807 := by
  obtain ⟨kA, kn, kc, ks, gA, gn, gc, gens, iA, im, ic, its⟩ := a
  obtain ⟨hk, hg, hi⟩ := h
  dsimp only at hk hg hi
  have e1 : ks.map Kd.p = [(k0n, k0f)] := congrArg Wv.ks hp
  have e2 : gens = [0] := congrArg Wv.gens hp
  have e3 : its.map It.p = [((0, 0), [(0, [p, q])])] := congrArg Wv.its hp
  subst e2
  obtain rfl : kn = 1 := by rw [hk.len]; simpa using congrArg List.length e1
  obtain rfl : gn = 1 := hg.len
  obtain rfl : im = 1 := by rw [hi.len]; simpa using congrArg List.length e3
  obtain ⟨it, rfl⟩ : ∃ it, its = [it] := List.length_eq_one_iff.1 hi.len.symm
  obtain ⟨e, g, cA, cn, cc, cms⟩ := it
  have e4 : It.p ⟨e, g, cA, cn, cc, cms⟩ = ((0, 0), [(0, [p, q])]) := by simpa using e3
  unfold It.p at e4
  injection e4 with e4 e5
  injection e4 with e6 e7
  dsimp only at e5 e6 e7
  subst e6 e7
  have h1 := hi.ok _ (List.mem_singleton.2 rfl)
  have h2 := h1.cs
  dsimp only at h2
  obtain rfl : cn = 1 := by rw [h2.len]; simpa using congrArg List.length e5
  obtain ⟨z, rfl⟩ : ∃ z, cms = [z] := List.length_eq_one_iff.1 h2.len.symm
  obtain ⟨zk, vA, vn, vc, vals⟩ := z
  have e8 : Cm.p ⟨zk, vA, vn, vc, vals⟩ = (0, [p, q]) := by simpa using e5
  unfold Cm.p at e8
  injection e8 with e8 e9
  dsimp only at e8 e9
  subst e8 e9
  have h3 := h2.ok _ (List.mem_singleton.2 rfl)
  obtain rfl : vn = 2 := h3.len
  obtain ⟨bi, oi, rfl, hb1, ht1, hc1⟩ := hi.rd.2 (by omega)
  obtain ⟨bc, oc, rfl, hb2, ht2, hc2⟩ := h2.rd.2 (by omega)
  obtain ⟨bv, ov, hvA, hb3, ht3, hc3⟩ := h3.rd.2 (by show 0 < 2; omega)
  dsimp only at hvA hc3
  subst hvA
  exact ⟨kA, kc, ks, gA, gc, bi, oi, ic, bc, oc, cc, bv, ov, vc, rfl, e1, hc1 2 _ rfl, hc2 1 _ rfl, hc3 0 _ rfl, hc3 1 _ rfl, hb1, hb2, hb3, ht3.resolve_left (by omega), ht1.resolve_left (by omega), ht2.resolve_left (by omega), hi.cap, h2.cap, h3.cap, hi.cap2, h2.cap2, h3.cap2⟩

section
variable {w : World} {kA gA iA cA : Option Addr} {kc gc ic cc vc : Nat} {ks : List Kd} {p q u : Int} {bv ov : Nat}
theorem fw_re {vA : Option Addr} {w' : World} {p' q' : Int} (h : WdY w 0 (fw kA kc ks gA gc iA ic cA cc vA vc p q)) (hk : Kx 0 [3] w w') (hg : RdY w' 0 3 1 gA 1 [.int .i64 0]) (hv : RdY w' 0 3 1 vA 2 [.int .i64 p', .int .i64 q']) :
    WdY w' 0 (fw kA kc ks gA gc iA ic cA cc vA vc p' q') := by
  obtain ⟨h1, h2, h3⟩ := h
  have k1 := h3.ok _ (List.mem_singleton.2 rfl)
  have k2 := k1.cs.ok _ (List.mem_singleton.2 rfl)
  refine ⟨h1.keep hk (by decide) (by decide), ⟨hg, h2.len, h2.cap, h2.cap2, h2.wf⟩, ⟨h3.rd.keep hk (by decide), h3.len, h3.cap, h3.cap2, fun x hx => ?_⟩⟩
  rw [List.mem_singleton.1 hx]
  refine ⟨⟨k1.cs.rd.keep hk (by decide), k1.cs.len, k1.cs.cap, k1.cs.cap2, fun z hz => ?_⟩, k1.wf1, k1.wf2⟩
  rw [List.mem_singleton.1 hz]
  exact ⟨hv, k2.len, k2.cap, k2.cap2, k2.wf⟩
theorem fw_rd {vA : Option Addr} (h : WdY w 0 (fw kA kc ks gA gc iA ic cA cc vA vc p q)) : RdY w 0 3 1 gA 1 [.int .i64 0] ∧ RdY w 0 3 1 vA 2 [.int .i64 p, .int .i64 q] :=
  ⟨h.gs.rd, ((h.its.ok _ (List.mem_singleton.2 rfl)).cs.ok _ (List.mem_singleton.2 rfl)).rd⟩
/-- The world whose value is stored. -/
theorem fw_at {i : Nat} {c : Int} (h : WdY w 0 (fw kA kc ks gA gc iA ic cA cc (some ⟨bv, ov, none⟩) vc p q)) (hi : [p, q][i]? = some c) (hc : c ≠ 0) :
    WdY (w.setCell ⟨bv, ov + i, none⟩ (.int .i64 u)) 0 (fw kA kc ks gA gc iA ic cA cc (some ⟨bv, ov, none⟩) vc (([p, q].set i u).getD 0 0) (([p, q].set i u).getD 1 0)) := by
  obtain ⟨hg, hv⟩ := fw_rd h
  obtain ⟨b, o, e1, h2, h3, h4⟩ := hv.2 (by omega)
  injection e1 with e1
  injection e1 with e1 e2
  subst e1 e2
  obtain ⟨cs, hb⟩ := h3.resolve_left (by omega)
  have hi2 : i < 2 := by simpa using (List.getElem?_eq_some_iff.1 hi).1
  have hcell : w.cell? ⟨bv, ov + i, none⟩ = some (.int .i64 c) := h4 i _ (by
    have e : [Value.int .i64 p, Value.int .i64 q] = [p, q].map (Value.int .i64) := rfl
    rw [e, List.getElem?_map, hi]; rfl)
  refine fw_re h (Kx.set Kx.refl hb (Nat.zero_le _) (by simp) _ _) (hg.put_ne hcell (by simpa using hc) hb) ?_
  have := hv.put_at (u := .int .i64 u) hi2
  rcases (show i = 0 ∨ i = 1 by omega) with rfl | rfl <;> exact this
/-- Another world. -/
theorem fw_far {vA : Option Addr} {g i : Nat} {c : Int} {cs : Array Value} (h : WdY w 0 (fw kA kc ks gA gc iA ic cA cc vA vc p q)) (hg : w.cell? ⟨g, i, none⟩ = some (.int .i64 c)) (hc : c ≠ 0) (hb : Bk w g 3 cs) (hf : ∀ b o, vA = some ⟨b, o, none⟩ → b ≠ g) :
    WdY (w.setCell ⟨g, i, none⟩ (.int .i64 u)) 0 (fw kA kc ks gA gc iA ic cA cc vA vc p q) := by
  obtain ⟨h1, h2⟩ := fw_rd h
  exact fw_re h (Kx.set Kx.refl hb (Nat.zero_le _) (by simp) _ _) (h1.put_ne hg (by simpa using hc) hb) (h2.put_far hf hb)
end
theorem fp_check : wcheckF (fp 1 2) = 0 ∧ wcheckF (fp 3 2) = 0 ∧ wcheckF (fp 1 4) = 0 := by decide +kernel
theorem fp_merge : mergeC (fp 1 2) (fp 3 2) (fp 1 4) = [] ∧ mergeF (fp 1 2) (fp 3 2) (fp 1 4) = fp 3 4 := by decide +kernel

def nilW : Array Value := #[.slice none 0 0, .slice none 0 0, .slice none 0 0]
/-- The blocks of the values. -/
def Rng (lo hi : Nat) (x : Wd) : Prop := ∀ it ∈ x.its, ∀ z ∈ it.cms, 0 < z.n → ∀ b o, z.A = some ⟨b, o, none⟩ → lo ≤ b ∧ b < hi
theorem rng_of {w : World} {lo : Nat} {x : Wd} (h : WdY w 0 x) (hf : ∀ it ∈ x.its, Fr lo 0 it.cms) : Rng lo w.heap.size x := fun it hit z hz hn b o hA => by
  have h1 := hf it hit z hz hn b o hA
  obtain ⟨b', o', e, hb, _⟩ := (((h.its.ok it hit).cs.ok z hz).rd).2 hn
  rw [hA] at e
  injection e with e
  injection e with e _
  subst e
  exact ⟨by omega, hb⟩
set_option maxHeartbeats 8000000 in
theorem merges36_any (w : World) : Calls Try.prog 36 #[] w fun e w' => e = .returned (.bool true) ∧ Below w.heap.size w w' := by
  have HK := Lib.hid kinds0_any
  go_enter Try.func36, Try.ntmps36
  go_wp2_with fail
  refine (HK.out _).mono ?_
  rintro e w1 ⟨g, ks, rfl, hk, hb1⟩
  obtain ⟨W, hW⟩ : ∃ W, W = ((((w1.alloc (.cells #[.int .i64 0] 3)).alloc (.cells #[.int .i64 1, .int .i64 2] 3)).alloc (.cells #[.int .i64 0, .slice (some ⟨w1.heap.size + 1, 0, none⟩) 2 2] 166)).alloc (.cells #[.int .i64 0, .int .i64 0, .slice (some ⟨w1.heap.size + 1 + 1, 0, none⟩) 1 1] 147)).alloc (.cells #[.slice (some ⟨g, 0, none⟩) 1 1, .slice (some ⟨w1.heap.size, 0, none⟩) 1 1, .slice (some ⟨w1.heap.size + 1 + 1 + 1, 0, none⟩) 1 1] 52) := ⟨_, rfl⟩
  obtain ⟨bW, hbW⟩ : ∃ b, b = w1.heap.size + 1 + 1 + 1 + 1 := ⟨_, rfl⟩
  go_upto_region 2 with fail
  rw [← hW, ← hbW]
  obtain ⟨O, hO, hOp, hOW⟩ : ∃ O : Wd, St W bW O ∧ O.p = fp 1 2 ∧ Rng w1.heap.size (w1.heap.size + 2) O := by
    have b0 : Bk W w1.heap.size 3 #[.int .i64 0] := by rw [hW]; exact ((((Bk.new _ _ _).alloc _).alloc _).alloc _).alloc _
    have b1 : Bk W (w1.heap.size + 1) 3 #[.int .i64 1, .int .i64 2] := by rw [hW]; exact (((Bk.two _ _ _ _).alloc _).alloc _).alloc _
    have b2 : Bk W (w1.heap.size + 1 + 1) 166 #[.int .i64 0, .slice (some ⟨w1.heap.size + 1, 0, none⟩) 2 2] := by rw [hW]; exact ((Bk.three _ _ _ _ _).alloc _).alloc _
    have b3 : Bk W (w1.heap.size + 1 + 1 + 1) 147 #[.int .i64 0, .int .i64 0, .slice (some ⟨w1.heap.size + 1 + 1, 0, none⟩) 1 1] := by
      rw [hW]; refine Bk.alloc ?_ _; simpa using Bk.new (((w1.alloc (.cells #[.int .i64 0] 3)).alloc (.cells #[.int .i64 1, .int .i64 2] 3)).alloc (.cells #[.int .i64 0, .slice (some ⟨w1.heap.size + 1, 0, none⟩) 2 2] 166)) 147 #[.int .i64 0, .int .i64 0, .slice (some ⟨w1.heap.size + 1 + 1, 0, none⟩) 1 1]
    have b4 : Bk W bW 52 #[.slice (some ⟨g, 0, none⟩) 1 1, .slice (some ⟨w1.heap.size, 0, none⟩) 1 1, .slice (some ⟨w1.heap.size + 1 + 1 + 1, 0, none⟩) 1 1] := by
      rw [hW, hbW]; simpa using Bk.new ((((w1.alloc (.cells #[.int .i64 0] 3)).alloc (.cells #[.int .i64 1, .int .i64 2] 3)).alloc (.cells #[.int .i64 0, .slice (some ⟨w1.heap.size + 1, 0, none⟩) 2 2] 166)).alloc (.cells #[.int .i64 0, .int .i64 0, .slice (some ⟨w1.heap.size + 1 + 1, 0, none⟩) 1 1] 147)) 52 #[.slice (some ⟨g, 0, none⟩) 1 1, .slice (some ⟨w1.heap.size, 0, none⟩) 1 1, .slice (some ⟨w1.heap.size + 1 + 1 + 1, 0, none⟩) 1 1]
    have hbw : Below w1.heap.size w1 W := by rw [hW]; exact Below.al (Below.al (Below.al (Below.al (Below.al (Below.refl _ _) _) _) _) _) _
    refine ⟨fw (some ⟨g, 0, none⟩) 1 ks (some ⟨w1.heap.size, 0, none⟩) 1 (some ⟨w1.heap.size + 1 + 1 + 1, 0, none⟩) 1 (some ⟨w1.heap.size + 1 + 1, 0, none⟩) 1 (some ⟨w1.heap.size + 1, 0, none⟩) 2 1 2, ⟨b4, ?_⟩, fw_p hk.out.2, ?_⟩
    · refine ⟨hk.out.1.keep (F := []) (Kx.of_below (B := 0) hbw) (by simp) (by simp), ⟨.of_bk b0 rfl (fun j u hu => by rw [← Array.getElem?_toList]; exact hu), rfl, Nat.le_refl _, by show (1 : Nat) ≤ _; omega, fun x hx => by rw [List.mem_singleton.1 hx]; decide⟩, ⟨.of_bk b3 rfl (fun j u hu => by rw [← Array.getElem?_toList]; exact hu), rfl, Nat.le_refl _, by show (1 : Nat) ≤ _; omega, fun x hx => ?_⟩⟩
      rw [List.mem_singleton.1 hx]
      refine ⟨⟨.of_bk b2 rfl (fun j u hu => by rw [← Array.getElem?_toList]; exact hu), rfl, Nat.le_refl _, by show (1 : Nat) ≤ _; omega, fun z hz => ?_⟩, by show (Lit.int .i64 0).wf = true; decide, by show (Lit.int .i64 0).wf = true; decide⟩
      rw [List.mem_singleton.1 hz]
      exact ⟨.of_bk b1 rfl (fun j u hu => by rw [← Array.getElem?_toList]; exact hu), rfl, Nat.le_refl _, by show (2 : Nat) ≤ _; omega, by show (Lit.int .i64 0).wf = true; decide⟩
    · intro it hit z hz _ b o hA
      rw [List.mem_singleton.1 hit] at hz
      rw [List.mem_singleton.1 hz] at hA
      injection hA with hA
      injection hA with hA _
      omega
  have hszW : w1.heap.size + 2 ≤ W.heap.size := by rw [hW]; simp
  have hB : Below w.heap.size w W := by
    have h : Below w1.heap.size w1 W := by rw [hW]; exact Below.al (Below.al (Below.al (Below.al (Below.al (Below.refl _ _) _) _) _) _) _
    exact hb1.trans (h.mono hb1.size)
  have HB := Lib.hid hB
  have HY1 := Lib.hid hO
  have HOP := Lib.hid hOp
  have HOW : Hid (Rng 0 W.heap.size O) := Lib.hid fun it hit z hz hn b o hA => by have := hOW it hit z hz hn b o hA; omega
  have hlt := hO.1.lt
  clear hk hb1 hW hbW hO hOp hOW hszW hB HK
  have hsm : SmallV O.p := by
    have hc : wcheckF O.p = 0 := by rw [HOP.out]; exact fp_check.1
    exact small_of (vw_of hc).1 (vw_of hc).2
  have HCA : Hid (∀ wx, Below W.heap.size W wx → Calls Try.prog 108 #[.agg #[.slice O.kA O.kn O.kc, .slice O.gA O.gn O.gc, .slice O.iA O.im O.ic]] wx fun e w' => ∃ (y : Wd) (sz : Nat), sz = wx.heap.size ∧ e = .returned (.agg #[.slice y.kA y.kn y.kc, .slice y.gA y.gn y.gc, .slice y.iA y.im y.ic]) ∧ Hid (WdY w' 0 y ∧ y.p = O.p ∧ Rng sz w'.heap.size y) ∧ Below wx.heap.size wx w' ∧ Below W.heap.size W w') := Lib.hid fun wx hb => (copyR_any (HY1.out.2.below hb).ok_ hsm).mono (by
    rintro e w' ⟨y, h1, h2, h3⟩
    exact ⟨y, _, rfl, h1, Lib.hid ⟨h2.out.1, h2.out.2.1, rng_of h2.out.1 h2.out.2.2⟩, h3, Below.tr hb h3⟩)
  clear hsm
  have HSS : Hid (∀ wx, Below W.heap.size W wx → wx.cell? ⟨bW, 0, none⟩ = some (.slice O.kA O.kn O.kc) ∧ wx.cell? ⟨bW, 1, none⟩ = some (.slice O.gA O.gn O.gc) ∧ wx.cell? ⟨bW, 2, none⟩ = some (.slice O.iA O.im O.ic)) := Lib.hid fun wx hb => (HY1.out.below hb).cs
  go_cut [2, 3] from 15 to 18 (fun pv qv wx => ∃ (a b : Wd) (bA bB H : Nat), pv = .pointer (some ⟨bA, 0, none⟩) ∧ qv = .pointer (some ⟨bB, 0, none⟩) ∧ Hid (St wx bA a ∧ a.p = O.p ∧ Rng W.heap.size H a) ∧ Hid (St wx bB b ∧ b.p = O.p ∧ Rng H wx.heap.size b) ∧ Hid (Below W.heap.size W wx))
  case first =>
    rename_i J0 Kp0 A1 A0
    go_region_held3 (fun wx => wx.cell? ⟨bW, 0, none⟩ = some (.slice O.kA O.kn O.kc) ∧ wx.cell? ⟨bW, 1, none⟩ = some (.slice O.gA O.gn O.gc) ∧ wx.cell? ⟨bW, 2, none⟩ = some (.slice O.iA O.im O.ic))
      (((with_reducible refine HSS.out _ ?_); (repeat' first | with_reducible exact Below.refl _ _ | with_reducible assumption | with_reducible refine Below.drew ?_ | with_reducible refine Below.al ?_ _ | with_reducible refine Below.setCell ?_ (by (try simp); (try omega)) _)))
      (first
        | (go_at_call 108
           (fail_if_success (have := hB3))
           (with_reducible show Calls Try.prog 108 #[.agg #[.slice O.kA O.kn O.kc, .slice O.gA O.gn O.gc, .slice O.iA O.im O.ic]] _ _)
           (with_reducible refine (HCA.out _ ?hbel).mono ?_)
           case hbel => (repeat' first | with_reducible exact Below.refl _ _ | with_reducible assumption | with_reducible refine Below.drew ?_ | with_reducible refine Below.al ?_ _)
           rintro e w3 ⟨a, za, hza, rfl, ha3, hb3, hB3⟩
           have hz3 := hb3.size
           (try simp at hz3)
           (try simp at hza)
           (try (have k0 := fun o => bcell hb3 W.heap.size (by first | (simp; done) | (simp; omega) | fail) o
                 have f0 := fun o => bfroz hb3 W.heap.size (by first | (simp; done) | (simp; omega) | fail) o))
           (try (have k1 := fun o => bcell hb3 (W.heap.size + 1) (by first | (simp; done) | (simp; omega) | fail) o
                 have f1 := fun o => bfroz hb3 (W.heap.size + 1) (by first | (simp; done) | (simp; omega) | fail) o)))
        | (go_at_call 108
           (with_reducible show Calls Try.prog 108 #[.agg #[.slice O.kA O.kn O.kc, .slice O.gA O.gn O.gc, .slice O.iA O.im O.ic]] _ _)
           (with_reducible refine (HCA.out _ ?hbel).mono ?_)
           case hbel => (repeat' first | with_reducible exact Below.refl _ _ | with_reducible assumption | with_reducible refine Below.drew ?_ | with_reducible refine Below.al ?_ _)
           rintro e w5 ⟨b, zb, hzb, rfl, hb5a, hb5, hB5⟩
           (try simp at hzb)
           have hb35 : Below w3.heap.size w3 w5 := by
             refine Below.tr ?_ hb5
             (repeat' first | with_reducible exact Below.refl _ _ | with_reducible assumption | with_reducible refine Below.drew ?_ | with_reducible refine Below.al ?_ _)
           have hz5 := hb5.size
           (try simp at hz5)
           (try (have k2 := fun o => (bcell hb35 W.heap.size (by omega) o).trans (k0 o)
                 have f2 := fun o => (bfroz hb35 W.heap.size (by omega) o).trans (f0 o)
                 have k2b := fun o ob => (bcell (Below.al hb35 ob) W.heap.size (by omega) o).trans (k0 o)
                 have f2b := fun o ob => (bfroz (Below.al hb35 ob) W.heap.size (by omega) o).trans (f0 o)))
           (try (have k3 := fun o => (bcell hb35 (W.heap.size + 1) (by omega) o).trans (k1 o)
                 have f3 := fun o => (bfroz hb35 (W.heap.size + 1) (by omega) o).trans (f1 o)
                 have k3b := fun o ob => (bcell (Below.al hb35 ob) (W.heap.size + 1) (by omega) o).trans (k1 o)
                 have f3b := fun o ob => (bfroz (Below.al hb35 ob) (W.heap.size + 1) (by omega) o).trans (f1 o)))
           (try (have k4 := fun o => bcell hb5 w3.heap.size (by first | (simp; done) | (simp; omega) | fail) o
                 have f4 := fun o => bfroz hb5 w3.heap.size (by first | (simp; done) | (simp; omega) | fail) o
                 have k4b := fun o ob => bcell (Below.al hb5 ob) w3.heap.size (by first | (simp; done) | (simp; omega) | fail) o
                 have f4b := fun o ob => bfroz (Below.al hb5 ob) w3.heap.size (by first | (simp; done) | (simp; omega) | fail) o))
           (try (have k5 := fun o => bcell hb5 (w3.heap.size + 1) (by first | (simp; done) | (simp; omega) | fail) o
                 have f5 := fun o => bfroz hb5 (w3.heap.size + 1) (by first | (simp; done) | (simp; omega) | fail) o
                 have k5b := fun o ob => bcell (Below.al hb5 ob) (w3.heap.size + 1) (by first | (simp; done) | (simp; omega) | fail) o
                 have f5b := fun o ob => bfroz (Below.al hb5 ob) (w3.heap.size + 1) (by first | (simp; done) | (simp; omega) | fail) o))))
    all_goals
      refine A0 _ _ (Met.intro (A1 _ _ ?_))
      (repeat apply Exists.intro)
      refine And.intro ?_ rfl
      have hz4 := hB3.size
      have hz6 := hB5.size
      refine ⟨a, b, _, _, w3.heap.size, rfl, rfl, Lib.hid ⟨⟨?h1, WdY.keep (F := [52]) (ha3.out.1.below hb35) ?h2 (by decide) (by decide) (by decide) (by decide) (by decide)⟩, ha3.out.2.1, fun it hit z hz hn b o hA => by have := ha3.out.2.2 it hit z hz hn b o hA; omega⟩, Lib.hid ⟨⟨?h3, WdY.keep (F := [52]) hb5a.out.1 ?h4 (by decide) (by decide) (by decide) (by decide) (by decide)⟩, hb5a.out.2.1, fun it hit z hz hn b o hA => by have := hb5a.out.2.2 it hit z hz hn b o hA; simp; omega⟩, Lib.hid ?h5⟩
      case h1 => (repeat' first | with_reducible exact Bk.new _ _ _ | with_reducible exact Bk.two _ _ _ _ | with_reducible refine Bk.set3 (x := .slice none 0 0) (y := .slice none 0 0) (z := .slice none 0 0) ?_ _ _ _ | with_reducible refine Bk.far3n ?_ (by omega) _ _ _ _ _ _ | with_reducible refine Bk.drew ?_ | with_reducible refine Bk.alloc ?_ _ | with_reducible refine Bk.below2 ?_ hb5 | with_reducible refine Bk.below2 ?_ hb3)
      case h2 =>
        (repeat' first | with_reducible exact Kx.refl | with_reducible refine Kx.s3n ?_ ?_ _ _ _ | with_reducible refine Kx.alloc ?_ _)
        all_goals (repeat' first | with_reducible exact Bk.new _ _ _ | with_reducible exact Bk.two _ _ _ _ | with_reducible refine Bk.set3 (x := .slice none 0 0) (y := .slice none 0 0) (z := .slice none 0 0) ?_ _ _ _ | with_reducible refine Bk.far3n ?_ (by omega) _ _ _ _ _ _ | with_reducible refine Bk.drew ?_ | with_reducible refine Bk.alloc ?_ _ | with_reducible refine Bk.below2 ?_ hb5 | with_reducible refine Bk.below2 ?_ hb3)
      case h3 => (repeat' first | with_reducible exact Bk.new _ _ _ | with_reducible exact Bk.two _ _ _ _ | with_reducible refine Bk.set3 (x := .slice none 0 0) (y := .slice none 0 0) (z := .slice none 0 0) ?_ _ _ _ | with_reducible refine Bk.far3n ?_ (by omega) _ _ _ _ _ _ | with_reducible refine Bk.drew ?_ | with_reducible refine Bk.alloc ?_ _ | with_reducible refine Bk.below2 ?_ hb5 | with_reducible refine Bk.below2 ?_ hb3)
      case h4 =>
        (repeat' first | with_reducible exact Kx.refl | with_reducible refine Kx.s3n ?_ ?_ _ _ _ | with_reducible refine Kx.alloc ?_ _)
        all_goals (repeat' first | with_reducible exact Bk.new _ _ _ | with_reducible exact Bk.two _ _ _ _ | with_reducible refine Bk.set3 (x := .slice none 0 0) (y := .slice none 0 0) (z := .slice none 0 0) ?_ _ _ _ | with_reducible refine Bk.far3n ?_ (by omega) _ _ _ _ _ _ | with_reducible refine Bk.drew ?_ | with_reducible refine Bk.alloc ?_ _ | with_reducible refine Bk.below2 ?_ hb5 | with_reducible refine Bk.below2 ?_ hb3)
      case h5 => (repeat' first | with_reducible exact Below.refl _ _ | with_reducible assumption | with_reducible refine Below.drew ?_ | with_reducible refine Below.al ?_ _ | with_reducible refine Below.setCell ?_ (by dsimp only; omega) _)
  case rest =>
    obtain ⟨a, b, bA, bB, H, rfl, rfl, HA, HBb, HBL⟩ := hcut
    have HY2 : Hid (St wc bW O) := Lib.hid (HY1.out.below HBL.out)
    have HB2 : Hid (Below w.heap.size w wc) := Lib.hid (HB.out.trans (HBL.out.mono HB.out.size))
    obtain ⟨akA, akc, aks, agA, agc, abi, aoi, aic, abc, aoc, acc, abv, aov, avc, rfl, aks1, ac1, ac2, ac3, ac4, abl1, abl2, abl3, ⟨acs, abk⟩, ⟨ais, aik⟩, ⟨aqs, aqk⟩, al1, al2, al3, am1, am2, am3⟩ := one_wd HA.out.1.2 (HA.out.2.1.trans HOP.out)
    obtain ⟨bkA, bkc, bks, bgA, bgc, bbi, boi, bic, bbc, boc, bcc, bbv, bov, bvc, rfl, bks1, bc1, bc2, bc3, bc4, bbl1, bbl2, bbl3, ⟨bcs, bbk⟩, ⟨bis, bik⟩, ⟨bqs, bqk⟩, bl1, bl2, bl3, bm1, bm2, bm3⟩ := one_wd HBb.out.1.2 (HBb.out.2.1.trans HOP.out)
    have a2 : wc.cell? ⟨bA, 2, none⟩ = some (.slice (some ⟨abi, aoi, none⟩) 1 aic) := HA.out.1.cs.2.2
    have e2 : wc.cell? ⟨bB, 2, none⟩ = some (.slice (some ⟨bbi, boi, none⟩) 1 bic) := HBb.out.1.cs.2.2
    have hra := HA.out.2.2 _ (List.mem_singleton.2 rfl) _ (List.mem_singleton.2 rfl) (by show 0 < 2; omega) abv aov rfl
    have hrb := HBb.out.2.2 _ (List.mem_singleton.2 rfl) _ (List.mem_singleton.2 rfl) (by show 0 < 2; omega) bbv bov rfl
    have af0 := abk.frozen aov
    have bf1 := bbk.frozen (bov + 1)
    have n1 : ¬ bbv = abv := by omega
    have n2 : ¬ bB = abv := HBb.out.1.1.ne_ abk (by decide)
    have n3 : ¬ bbi = abv := bik.ne_ abk (by decide)
    have n4 : ¬ bbc = abv := bqk.ne_ abk (by decide)
    have n5 : ¬ bA = bbv := HA.out.1.1.ne_ bbk (by decide)
    have n6 : ¬ abi = bbv := aik.ne_ bbk (by decide)
    have n7 : ¬ abc = bbv := aqk.ne_ bbk (by decide)
    have hh : abv < wc.heap.size := abk.lt
    have hh2 : bbv < wc.heap.size := bbk.lt
    have HAK := Lib.hid (And.intro abk bbk)
    have HSV := Lib.hid (And.intro aks1 (And.intro bks1 (And.intro ac3 (And.intro ac4 (And.intro bc3 bc4)))))
    clear HCA HSS HY1
    clear aks1 bks1 abk bbk aik bik aqk bqk
    go_wp2_with fail
    go_region
    obtain ⟨W2, hW2⟩ : ∃ W2, W2 = wc.setCell ⟨abv, aov, none⟩ (.int .i64 3) := ⟨_, rfl⟩
    obtain ⟨W3, hW3⟩ : ∃ W3, W3 = (W2.setCell ⟨bbv, bov + 1, none⟩ (.int .i64 4)).drew := ⟨_, rfl⟩
    rw [← hW2, ← hW3]
    obtain ⟨OkA, Okc, Oks, OgA, Ogc, Obi, Ooi, Oic, Obc, Ooc, Occ, Obv, Oov, Ovc, rfl, Oks1, _, _, _, _, _, _, Obl3, _, _, _, _, _, _, _, _, _⟩ := one_wd HY2.out.2 HOP.out
    have hro := HOW.out _ (List.mem_singleton.2 rfl) _ (List.mem_singleton.2 rfl) (by show 0 < 2; omega) Obv Oov rfl
    have hbL := HBL.out.size
    have abk2 : Bk W2 abv 3 (acs.setIfInBounds aov (.int .i64 3)) := by rw [hW2]; exact HAK.out.1.set_ aov _
    have bbk2 : Bk W2 bbv 3 bcs := by rw [hW2]; exact HAK.out.2.far (p := ⟨abv, aov, none⟩) n1 _
    have bc42 : W2.cell? ⟨bbv, bov + 1, none⟩ = some (.int .i64 2) := by rw [hW2, World.cell?_setCell_far _ _ _ _ (by show abv ≠ bbv; omega)]; exact HSV.out.2.2.2.2.2
    have YA2 : WdY W2 0 (fw akA akc aks agA agc (some ⟨abi, aoi, none⟩) aic (some ⟨abc, aoc, none⟩) acc (some ⟨abv, aov, none⟩) avc 3 2) := by
      rw [hW2]; exact fw_at (i := 0) HA.out.1.2 rfl (by decide)
    have YB2 : WdY W2 0 (fw bkA bkc bks bgA bgc (some ⟨bbi, boi, none⟩) bic (some ⟨bbc, boc, none⟩) bcc (some ⟨bbv, bov, none⟩) bvc 1 2) := by
      rw [hW2]; exact fw_far HBb.out.1.2 HSV.out.2.2.1 (by decide) HAK.out.1 (by intro b o e; injection e with e; injection e with e _; omega)
    have YO2 : WdY W2 0 (fw OkA Okc Oks OgA Ogc (some ⟨Obi, Ooi, none⟩) Oic (some ⟨Obc, Ooc, none⟩) Occ (some ⟨Obv, Oov, none⟩) Ovc 1 2) := by
      rw [hW2]; exact fw_far HY2.out.2 HSV.out.2.2.1 (by decide) HAK.out.1 (by intro b o e; injection e with e; injection e with e _; omega)
    have hk3 : ∀ wx : World, Kx 0 [] wx wx.drew := fun wx => Kx.refl.drew
    have YA3 : WdY W3 0 (fw akA akc aks agA agc (some ⟨abi, aoi, none⟩) aic (some ⟨abc, aoc, none⟩) acc (some ⟨abv, aov, none⟩) avc 3 2) := by
      rw [hW3]; exact (fw_far YA2 bc42 (by decide) bbk2 (by intro b o e; injection e with e; injection e with e _; omega)).keep (hk3 _) (by simp) (by simp) (by simp) (by simp) (by simp)
    have YB3 : WdY W3 0 (fw bkA bkc bks bgA bgc (some ⟨bbi, boi, none⟩) bic (some ⟨bbc, boc, none⟩) bcc (some ⟨bbv, bov, none⟩) bvc 1 4) := by
      rw [hW3]; exact (fw_at (i := 1) YB2 rfl (by decide)).keep (hk3 _) (by simp) (by simp) (by simp) (by simp) (by simp)
    have YO3 : WdY W3 0 (fw OkA Okc Oks OgA Ogc (some ⟨Obi, Ooi, none⟩) Oic (some ⟨Obc, Ooc, none⟩) Occ (some ⟨Obv, Oov, none⟩) Ovc 1 2) := by
      rw [hW3]; exact (fw_far YO2 bc42 (by decide) bbk2 (by intro b o e; injection e with e; injection e with e _; omega)).keep (hk3 _) (by simp) (by simp) (by simp) (by simp) (by simp)
    have hkx : Kx 0 [3] wc W3 := by
      rw [hW3, hW2]
      exact ((Kx.set Kx.refl HAK.out.1 (Nat.zero_le _) (by simp) aov _).trans (Kx.set Kx.refl (by rw [← hW2]; exact bbk2) (Nat.zero_le _) (by simp) (bov + 1) _)).drew
    have hbl3 : Below W.heap.size W W3 := by
      rw [hW3, hW2]
      exact ((HBL.out.setCell (p := ⟨abv, aov, none⟩) (by show W.heap.size ≤ abv; omega) _).setCell (p := ⟨bbv, bov + 1, none⟩) (by show W.heap.size ≤ bbv; omega) _).drew
    have HB3 : Hid (Below w.heap.size w W3) := Lib.hid (HB.out.trans (hbl3.mono HB.out.size))
    have q0 := hkx.bk HY2.out.1 (by decide)
    have q1 := hkx.bk HA.out.1.1 (by decide)
    have q2 := hkx.bk HBb.out.1.1 (by decide)
    have pO := fw_p (kA := OkA) (gA := OgA) (iA := some ⟨Obi, Ooi, none⟩) (cA := some ⟨Obc, Ooc, none⟩) (vA := some ⟨Obv, Oov, none⟩) (kc := Okc) (gc := Ogc) (ic := Oic) (cc := Occ) (vc := Ovc) (p := 1) (q := 2) Oks1
    have pA := fw_p (kA := akA) (gA := agA) (iA := some ⟨abi, aoi, none⟩) (cA := some ⟨abc, aoc, none⟩) (vA := some ⟨abv, aov, none⟩) (kc := akc) (gc := agc) (ic := aic) (cc := acc) (vc := avc) (p := 3) (q := 2) HSV.out.1
    have pB := fw_p (kA := bkA) (gA := bgA) (iA := some ⟨bbi, boi, none⟩) (cA := some ⟨bbc, boc, none⟩) (vA := some ⟨bbv, bov, none⟩) (kc := bkc) (gc := bgc) (ic := bic) (cc := bcc) (vc := bvc) (p := 1) (q := 4) HSV.out.2.1
    have ht := three_ok YO3.ok_ YA3.ok_ YB3.ok_ (by rw [pO]; exact fp_check.1) (by rw [pA]; exact fp_check.2.1) (by rw [pB]; exact fp_check.2.2) (by rw [pO, pA]; rfl) (by rw [pO, pB]; rfl)
    rw [pO, pA, pB, fp_merge.1, fp_merge.2] at ht
    have HT : Hid (Calls Try.prog 31 #[.agg #[.slice OkA 1 Okc, .slice OgA 1 Ogc, .slice (some ⟨Obi, Ooi, none⟩) 1 Oic], .agg #[.slice akA 1 akc, .slice agA 1 agc, .slice (some ⟨abi, aoi, none⟩) 1 aic], .agg #[.slice bkA 1 bkc, .slice bgA 1 bgc, .slice (some ⟨bbi, boi, none⟩) 1 bic]] W3 fun e w' => ∃ (kA : Option Addr) (kc : Nat) (gA : Option Addr) (gc bi oi ic bc oc cc bv ov vc : Nat) (CA : Option Addr) (c : Nat), e = .returned (.tuple #[.agg #[.slice kA 1 kc, .slice gA 1 gc, .slice (some ⟨bi, oi, none⟩) 1 ic], .slice CA 0 c, .int .i64 0]) ∧
        Hid (w'.cell? ⟨bi, oi + 2, none⟩ = some (.slice (some ⟨bc, oc, none⟩) 1 cc) ∧ w'.cell? ⟨bc, oc + 1, none⟩ = some (.slice (some ⟨bv, ov, none⟩) 2 vc) ∧ w'.cell? ⟨bv, ov, none⟩ = some (.int .i64 3) ∧ w'.cell? ⟨bv, ov + 1, none⟩ = some (.int .i64 4) ∧ bi < w'.heap.size ∧ bc < w'.heap.size ∧ bv < w'.heap.size ∧ 1 ≤ ic ∧ 1 ≤ cc ∧ 2 ≤ vc ∧ ic ≤ 9223372036854775807 ∧ cc ≤ 9223372036854775807 ∧ vc ≤ 9223372036854775807) ∧ Below W3.heap.size W3 w') := Lib.hid (ht.mono (by
      rintro e w' ⟨Z, CA, n, c, rfl, hZ, hn, hb⟩
      obtain rfl : n = 0 := hn.out.1
      obtain ⟨kA, kc, ks, gA, gc, bi, oi, ic, bc, oc, cc, bv, ov, vc, rfl, _, h1, h2, h3, h4, h5, h6, h7, _, _, _, h8⟩ := one_wd hZ.out.1 hZ.out.2
      exact ⟨kA, kc, gA, gc, bi, oi, ic, bc, oc, cc, bv, ov, vc, CA, c, rfl, Lib.hid ⟨h1, h2, h3, h4, h5, h6, h7, h8⟩, hb⟩))
    have s0 := And.intro (q0.cell 0) (And.intro (q0.cell 1) (q0.cell 2))
    have s1 := And.intro (q1.cell 0) (And.intro (q1.cell 1) (q1.cell 2))
    have s2 := And.intro (q2.cell 0) (And.intro (q2.cell 1) (q2.cell 2))
    obtain ⟨x0, x1, x2⟩ : W3.cell? ⟨bW, 0, none⟩ = some (.slice OkA 1 Okc) ∧ W3.cell? ⟨bW, 1, none⟩ = some (.slice OgA 1 Ogc) ∧ W3.cell? ⟨bW, 2, none⟩ = some (.slice (some ⟨Obi, Ooi, none⟩) 1 Oic) := s0
    obtain ⟨y0, y1, y2⟩ : W3.cell? ⟨bA, 0, none⟩ = some (.slice akA 1 akc) ∧ W3.cell? ⟨bA, 1, none⟩ = some (.slice agA 1 agc) ∧ W3.cell? ⟨bA, 2, none⟩ = some (.slice (some ⟨abi, aoi, none⟩) 1 aic) := s1
    obtain ⟨z0, z1, z2⟩ : W3.cell? ⟨bB, 0, none⟩ = some (.slice bkA 1 bkc) ∧ W3.cell? ⟨bB, 1, none⟩ = some (.slice bgA 1 bgc) ∧ W3.cell? ⟨bB, 2, none⟩ = some (.slice (some ⟨bbi, boi, none⟩) 1 bic) := s2
    clear q0 q1 q2 ht pO pA pB YO3 YA3 YB3 YO2 YA2 YB2 hk3 hkx hbl3 hW3 hW2 abk2 bbk2 bc42 HA HBb HY2 HOW HOP HAK HSV hro hra hrb Oks1 HBL HB2 a2 e2 ac1 ac2 ac3 ac4 bc1 bc2 bc3 bc4 af0 bf1 n1 n2 n3 n4 n5 n6 n7
    go_wp2_with fail
    (with_reducible refine HT.out.mono ?_)
    rintro e w4 ⟨kA, kc, gA, gc, bi, oi, ic, bc, oc, cc, bv, ov, vc, CA, c, rfl, hZ, hb4⟩
    have HB4 := Lib.hid (HB3.out.trans (hb4.mono HB3.out.size))
    clear HT x0 x1 x2 y0 y1 y2 z0 z1 z2 hb4 al1 al2 al3 am1 am2 am3 bl1 bl2 bl3 bm1 bm2 bm3 abl1 abl2 abl3 bbl1 bbl2 bbl3 hh hh2 hlt hbL Obl3
    obtain ⟨W5, hW5⟩ : ∃ W5, W5 = w4.alloc (.cells #[.slice kA 1 kc, .slice gA 1 gc, .slice (some ⟨bi, oi, none⟩) 1 ic] 52) := ⟨_, rfl⟩
    obtain ⟨bZ, hbZ⟩ : ∃ b, b = w4.heap.size := ⟨_, rfl⟩
    go_upto_region 5 with fail
    rw [← hW5, ← hbZ]
    have hz : Bk W5 bZ 52 #[.slice kA 1 kc, .slice gA 1 gc, .slice (some ⟨bi, oi, none⟩) 1 ic] := by rw [hW5, hbZ]; exact Bk.new _ _ _
    have hb5 : Below w.heap.size w W5 := by rw [hW5]; exact Below.al HB4.out _
    obtain ⟨h1, h2, h3, h4, h5, h6, h7, h8, h9, h10, h11, h12, h13⟩ := hZ.out
    have c2 : W5.cell? ⟨bZ, 2, none⟩ = some (.slice (some ⟨bi, oi, none⟩) 1 ic) := hz.cell 2
    have c3 : W5.cell? ⟨bi, oi + 2, none⟩ = some (.slice (some ⟨bc, oc, none⟩) 1 cc) := by rw [hW5, World.cell?_alloc_lt _ _ _ h5]; exact h1
    have c4 : W5.cell? ⟨bc, oc + 1, none⟩ = some (.slice (some ⟨bv, ov, none⟩) 2 vc) := by rw [hW5, World.cell?_alloc_lt _ _ _ h6]; exact h2
    have c5 : W5.cell? ⟨bv, ov, none⟩ = some (.int .i64 3) := by rw [hW5, World.cell?_alloc_lt _ _ _ h7]; exact h3
    have c6 : W5.cell? ⟨bv, ov + 1, none⟩ = some (.int .i64 4) := by rw [hW5, World.cell?_alloc_lt _ _ _ h7]; exact h4
    have hbv : bv < W5.heap.size := by rw [hW5]; simp; omega
    have HB5 := Lib.hid hb5
    have HEQ : Hid (Calls Try.prog 27 #[.slice (some ⟨bv, ov, none⟩) 2 vc, .slice (some ⟨W5.heap.size, 0, none⟩) 2 2] (W5.alloc (.cells #[.int .i64 3, .int .i64 4] 3)) fun e w' => e = .returned (.bool true) ∧ Below w.heap.size w w') := Lib.hid (by
      have r1 : Rd (W5.alloc (.cells #[.int .i64 3, .int .i64 4] 3)) (W5.heap.size + 1) 1 (some ⟨bv, ov, none⟩) 2 ([3, 4].map (Value.int .i64)) := ⟨rfl, fun _ => ⟨bv, ov, rfl, by omega, fun j u hu => by
        rcases (show j = 0 ∨ j = 1 ∨ 2 ≤ j by omega) with rfl | rfl | hj
        · rw [World.cell?_alloc_lt _ _ _ (by exact hbv)]; exact c5.trans hu
        · rw [World.cell?_alloc_lt _ _ _ (by exact hbv)]; exact c6.trans hu
        · rw [List.getElem?_eq_none (by simpa using hj)] at hu; cases hu⟩⟩
      have r2 : Rd (W5.alloc (.cells #[.int .i64 3, .int .i64 4] 3)) (W5.heap.size + 1) 1 (some ⟨W5.heap.size, 0, none⟩) 2 ([3, 4].map (Value.int .i64)) := ⟨rfl, fun _ => ⟨W5.heap.size, 0, rfl, by omega, fun j u hu => by
        rw [Nat.zero_add, (Bk.new W5 3 #[.int .i64 3, .int .i64 4]).cell j, ← Array.getElem?_toList]; exact hu⟩⟩
      refine (equalInts_any (some ⟨bv, ov, none⟩) (some ⟨W5.heap.size, 0, none⟩) 2 vc 2 2 (W5.heap.size + 1) [3, 4] [3, 4] _ rfl rfl (by omega) r1 r2).mono ?_
      rintro e w' ⟨rfl, m, rfl⟩
      exact ⟨rfl, below_dn (Below.al HB5.out _) m⟩)
    clear hz hb5 h1 h2 h3 h4 hW5 hbZ
    go_wp2_with fail
    (with_reducible refine HEQ.out.mono ?_)
    rintro e w6 ⟨rfl, hb6⟩
    have HB6 := Lib.hid hb6
    clear hb6 HEQ c2 c3 c4 c5 c6
    go_wp2_with fail
    go_ret
    exact ⟨rfl, HB6.out⟩
end Go.Proofs.Ytnidcmhfbkdioaa
