/-
  The contract of game.Flat at a state that is a world alone. Conditions: a world that can be read, of bounded sizes.
-/
import Derived.Test.YtnidcmhfbkdioaaVa
import Derived.Test.YtnidcmhfbkdioaaMk
import Derived.Test.YtnidcmhfbkdioaaRe
namespace Go.Proofs.Ytnidcmhfbkdioaa
open Go.RowKit
set_option maxRecDepth 100000

def fdN (f : Fd) : List Int := textF f.nm ++ [f.bits, f.low]
def kdN (k : Kp2) : List Int := textF k.1 ++ [(k.2.length : Int)] ++ k.2.flatMap fdN
def cmN (c : Int × List Int) : List Int := [c.1, (c.2.length : Int)] ++ c.2
def itN (t : Iv) : List Int := [t.1.1, t.1.2, (t.2.length : Int)] ++ t.2.flatMap cmN
def flatA (Tk : Int) (p : Wv Kp2) : List Int := [Tk, (p.ks.length : Int)] ++ p.ks.flatMap kdN
def flatB (Tk : Int) (p : Wv Kp2) : List Int := flatA Tk p ++ [(p.gens.length : Int)] ++ p.gens ++ [(p.its.length : Int)]
def flatN (Tk : Int) (p : Wv Kp2) : List Int := flatB Tk p ++ p.its.flatMap itN ++ [0] ++ [0] ++ [0]
theorem wpAnyE_twoV {P : Program} {ops : Array Oper} {Q : Exit → Act → World → Prop} {md : Region.Mode} {S : World → Prop} {last i j : Nat} {oi oj : Oper} {fuel : Nat} {listed : Array Bool} {a : Act} {w : World} (hi : ops[i]? = some oi) (hj : ops[j]? = some oj) (hr : Region.ready md ops listed = [i, j]) (hgi : oi.guard = none) (hgj : oj.guard = none)
    (h1 : oi.wp P a w (fun a' w' => (i ≠ last → S w') ∧ wpAnyE P md ops Q S last fuel (listed.setIfInBounds i true) a' w') Q) (h2 : oj.wp P a w (fun a' w' => (j ≠ last → S w') ∧ wpAnyE P md ops Q S last fuel (listed.setIfInBounds j true) a' w') Q) : wpAnyE P md ops Q S last (fuel + 1) listed a w :=
  ⟨(fun h0 => by rw [hr] at h0; cases h0), fun k hk => by
    rw [hr] at hk
    unfold wpOp
    rcases (by simpa using hk : k = i ∨ k = j) with e | e
    · subst e
      have hw : Region.wanted oi (yielded ops a.tmps) = true := by simp [Region.wanted, hgi]
      simp only [hi, hw, if_true]
      exact .inl h1
    · subst e
      have hw : Region.wanted oj (yielded ops a.tmps) = true := by simp [Region.wanted, hgj]
      simp only [hj, hw, if_true]
      exact .inl h2⟩
theorem of_wanted {P : Program} {ops : Array Oper} {o : Oper} {a : Act} {w : World} {K : Act → World → Prop} {Q : Exit → Act → World → Prop} (hg : o.guard = none) (h : if Region.wanted o (yielded ops a.tmps) = true then Oper.wp P o a w K Q else False) : Oper.wp P o a w K Q := by
  rwa [if_pos (by simp [Region.wanted, hg])] at h
/-- The bounds on a world's parts. -/
structure Szs (p : Wv Kp2) : Prop where
  ks : p.ks.length ≤ 16
  kd : ∀ k ∈ p.ks, k.1.size ≤ 16 ∧ k.2.length ≤ 8 ∧ ∀ f ∈ k.2, f.nm.size ≤ 16
  gs : p.gens.length ≤ 256
  its : p.its.length ≤ 256
  it : ∀ t ∈ p.its, t.2.length ≤ 16 ∧ ∀ c ∈ t.2, c.2.length ≤ 8
/-- A row of numbers that grows: its cells, and that only what is new has turned since w0. -/
def RowT (base : Nat) (w0 w : World) (A : Option Addr) (m c : Nat) (xs : List Int) : Prop :=
  w.ownsRow base 3 1 (.slice A m c) m (xs.map (Value.int .i64)) ∧ m = xs.length ∧ Below base w0 w
section
variable {base m c m' c' : Nat} {w0 w w1 w' : World} {A A' : Option Addr} {xs ys : List Int}
theorem RowT.app {vs : List Value} (h : RowT base w0 w A m c xs) (hb : base ≤ w0.heap.size) (hw1 : Below w.heap.size w w1) (ho : w'.ownsRow base 3 1 (.slice A' m' c') m' (xs.map (Value.int .i64) ++ vs)) (hg : w1.grownBy w' (Value.slice A m c).ownBlock)
    (hv : vs = ys.map (Value.int .i64)) : RowT base w0 w' A' m' c' (xs ++ ys) := by
  have hs := h.2.2.size
  subst hv
  refine ⟨by rw [List.map_append]; exact ho, by have := ho.1; simpa using this.symm, ((h.2.2.trans (hw1.mono (by omega))).grown hg (by have := hw1.size; omega) fun q hq => (h.1.lt q hq).1)⟩
theorem RowT.text (h : RowT base w0 w A m c xs) (hb : base ≤ w0.heap.size) (hw1 : Below w.heap.size w w1) (ho : w'.ownsRow base 3 1 (.slice A' m' c') m' ((xs ++ ys).map (Value.int .i64))) (hg : w1.grownBy w' (Value.slice A m c).ownBlock) : RowT base w0 w' A' m' c' (xs ++ ys) :=
  h.app hb hw1 (by rw [List.map_append] at ho; exact ho) hg rfl
theorem RowT.box {g : Nat} {t : TypeId} {cs : Array Value} (h : RowT base w0 w A m c xs) (hk : Bk w g t cs) (ht : (3 : TypeId) ≠ t) (hw1 : Below w.heap.size w w1) (hg : w1.grownBy w' (Value.slice A m c).ownBlock) : Bk w' g t cs :=
  (hk.below hw1 hk.lt).grown hg fun e => own_ne h.1 hk ht e.symm
theorem RowT.below (h : RowT base w0 w A m c xs) (hw1 : Below w.heap.size w w1) (hb : base ≤ w0.heap.size) : RowT base w0 w1 A m c xs :=
  ⟨own_keepU h.1 hw1, h.2.1, h.2.2.trans (hw1.mono (by have := h.2.2.size; omega))⟩
theorem Rd.ofBkV {g k size : Nat} {t : TypeId} {cs : Array Value} (h : Bk w g t cs) (hs : cs.size = k * size) : Rd w w.heap.size size (some ⟨g, 0, none⟩) k cs.toList :=
  ⟨by simpa using hs, fun _ => ⟨_, _, rfl, h.lt, fun j v hv => by
    rw [Nat.zero_add]
    exact (h.cell j).trans (by simpa using hv)⟩⟩
theorem RowT.eq (h : RowT base w0 w A m c xs) (e : xs = ys) : RowT base w0 w A m c ys := e ▸ h
end

set_option maxHeartbeats 8000000 in
theorem flat_any (x : Wd) (Tk : Int) (B : Nat) (w : World) (hW : WdOk w B x) (hB : B ≤ w.heap.size) (hS : Szs x.p) :
    Calls Try.prog 119 #[.agg #[.int .i64 Tk, .slice x.kA x.kn x.kc, .slice x.gA x.gn x.gc, .slice x.iA x.im x.ic, .slice none 0 0, .slice none 0 0, .slice none 0 0]] w (RetS w 3 1 (flatN Tk x.p).length ((flatN Tk x.p).map (Value.int .i64))) := by
  obtain ⟨i3, hi3, hz30, hz31, hz32⟩ := info_parts T.info3
  obtain ⟨p, hp⟩ : ∃ p, p = x.p := ⟨_, rfl⟩
  rw [← hp] at hS ⊢
  obtain ⟨kA, kn, kc, ks, gA, gn, gc, gens, iA, im, ic, its⟩ := x
  have HP : Hid (p.ks = ks.map Kd.p ∧ p.gens = gens ∧ p.its = its.map It.p) := Lib.hid (by rw [hp]; exact ⟨rfl, rfl, rfl⟩)
  clear hp
  dsimp only
  obtain ⟨W0, hW0⟩ : ∃ W0, W0 = w.alloc (.cells #[.int .i64 Tk, .slice kA kn kc, .slice gA gn gc, .slice iA im ic, .slice none 0 0, .slice none 0 0, .slice none 0 0] 80) := ⟨_, rfl⟩
  have hb0 : Below w.heap.size w W0 := by rw [hW0]; exact (Below.refl _ _).alloc (Nat.le_refl _) _
  have hs0 : W0.heap.size = w.heap.size + 1 := by rw [hW0]; simp
  have HB0 := Lib.hid hb0
  have HX0 : Hid (Bk W0 w.heap.size 80 #[.int .i64 Tk, .slice kA kn kc, .slice gA gn gc, .slice iA im ic, .slice none 0 0, .slice none 0 0, .slice none 0 0]) := Lib.hid (by rw [hW0]; exact Bk.new _ _ _)
  have HK := Lib.hid (hW.ks.below (hb0.mono hB))
  have HGS := Lib.hid (hW.gs.below (hb0.mono hB))
  have HIS := Lib.hid (hW.its.below (hb0.mono hB))
  have HS := Lib.hid hS
  have HSZ := Lib.hid hs0
  have d0 : W0.cell? ⟨w.heap.size, 0, none⟩ = some (.int .i64 Tk) := HX0.out.cell 0
  have d1 : W0.cell? ⟨w.heap.size, 1, none⟩ = some (.slice kA kn kc) := HX0.out.cell 1
  have hkn : kn = ks.length := hW.ks.len
  have hk16 : kn ≤ 16 := by rw [hkn]; have := hS.ks; rw [HP.out.1] at this; simpa using this
  have hgn : gn ≤ 256 := by have h1 : gn = gens.length := hW.gs.len; have := hS.gs; rw [HP.out.2.1] at this; omega
  have hin : im ≤ 256 := by have h1 : im = its.length := hW.its.len; have := hS.its; rw [HP.out.2.2, List.length_map] at this; omega
  have HKN := Lib.hid hkn
  clear hW hS hb0 hs0 hkn
  go_enter Try.func119, Try.ntmps119
  go_upto_region 1 with fail
  rw [← hW0]
  clear hW0
  obtain ⟨W1, hW1⟩ : ∃ W1, W1 = W0.alloc (.cells #[.int .i64 Tk, .int .i64 kn] 3) := ⟨_, rfl⟩
  have HR1 : Hid (RowT (w.heap.size + 1) W0 W1 (some ⟨W0.heap.size, 0, none⟩) 2 2 [Tk, (kn : Int)]) := Lib.hid (by
    rw [hW1]
    exact ⟨own_of_bk (by rw [HSZ.out]; exact Nat.le_refl _) (Bk.new _ _ _) rfl rfl (by omega), rfl, (Below.refl _ _).alloc (by rw [HSZ.out]; exact Nat.le_refl _) _⟩)
  have d1' : (W0.alloc (.cells #[.int .i64 Tk, .int .i64 kn] 3)).cell? ⟨w.heap.size, 1, none⟩ = some (.slice kA kn kc) := (HX0.out.alloc _).cell 1
  have HW1 := Lib.hid hW1
  clear hW1
  go_wp2_with fail
  rw [← HW1.out]
  clear HW1 d0 d1 d1'
  go_loopw [3, 29] (fun rv iv wr => ∃ (i m c : Nat) (A : Option Addr) (xs : List Int), i ≤ kn ∧ iv = .int .i64 i ∧ rv = .slice A m c ∧ m ≤ 2 + i * 200 ∧ Hid (RowT (w.heap.size + 1) W0 wr A m c xs) ∧ Hid (xs = [Tk, (kn : Int)] ++ (p.ks.take i).flatMap kdN)) (fun _ iv _ => kn - (intOf iv).toNat)
  case atStart => exact ⟨0, 2, 2, _, _, Nat.zero_le _, rfl, rfl, by omega, HR1, Lib.hid (by simp)⟩
  case round =>
    clear HR1
    obtain ⟨i, m, c, A, xs, hi, rfl, rfl, hm, HR, HE⟩ := hrel
    obtain ⟨wo, rfl⟩ : ∃ z, z = wr := ⟨_, rfl⟩
    have hbw : w.heap.size + 1 ≤ wo.heap.size := by have := HR.out.2.2.size; have := HSZ.out; omega
    by_cases hlt : i < kn
    · obtain ⟨k, hk⟩ : ∃ k, ks[i]? = some k := ⟨_, List.getElem?_eq_getElem (by have := HKN.out; omega)⟩
      have hkso := HK.out.below (HR.out.2.2.mono (by omega))
      have hko := HK.out.ok k (List.mem_of_getElem? hk)
      obtain ⟨b, o, rfl, hbb, q0, q1⟩ := hkso.rd.kd hlt hk
      have hkp : p.ks[i]? = some k.p := by rw [HP.out.1, List.getElem?_map, hk]; rfl
      have hks := HS.out.kd k.p (List.mem_of_getElem? hkp)
      have hkn16 : k.nm.size ≤ 16 := hks.1
      have hkn8 : k.n ≤ 8 := by have h1 := hko.len; have h2 : k.fds.length ≤ 8 := hks.2.1; omega
      have HKF : Hid (∀ f ∈ k.fds, f.nm.size ≤ 16) := Lib.hid hks.2.2
      have HKP := Lib.hid hkp
      obtain ⟨w1, hw1⟩ : ∃ w1, w1 = wo.alloc (.cells #[.string k.nm, .slice k.A k.n k.c] 63) := ⟨_, rfl⟩
      have HB1 : Hid (Below wo.heap.size wo w1) := Lib.hid (by rw [hw1]; exact (Below.refl _ _).alloc (Nat.le_refl _) _)
      have HK1 : Hid (Bk w1 wo.heap.size 63 #[.string k.nm, .slice k.A k.n k.c]) := Lib.hid (by rw [hw1]; exact Bk.new _ _ _)
      have HKO := Lib.hid hko
      clear hkso hko hkp hks hk
      generalize hknm : k.nm = knm at *
      generalize hkA : k.A = fA at *
      generalize hkn : k.n = fn at *
      generalize hkc : k.c = fc at *
      have HKV := Lib.hid (And.intro hknm (And.intro hkA (And.intro hkn hkc)))
      clear hknm hkA hkn hkc
      have e0 : w1.cell? ⟨wo.heap.size, 0, none⟩ = some (.string knm) := HK1.out.cell 0
      go_upto_region 5 with fail
      rw [← hw1]
      clear hw1 q0 q1
      have HT := Lib.hid (gtext_any (w.heap.size + 1) m c A xs knm w1 (HR.out.below HB1.out (by rw [HSZ.out]; exact Nat.le_refl _)).1 (by omega) (by have := HB1.out.size; omega))
      go_wp2_with fail
      refine HT.out.mono ?_
      clear HT
      rintro e w2 ⟨A2, c2, rfl, hown2, hg2, hat2⟩
      have HR2 := Lib.hid (HR.out.text (by rw [HSZ.out]; exact Nat.le_refl _) HB1.out hown2 hg2)
      have HK2 : Hid (Bk w2 wo.heap.size 63 #[.string knm, .slice fA fn fc]) := Lib.hid ((HR.out.below HB1.out (by rw [HSZ.out]; exact Nat.le_refl _)).box HK1.out (by decide) (Below.refl _ _) hg2)
      clear hown2 hg2 hat2
      have f1 : w2.cell? ⟨wo.heap.size, 1, none⟩ = some (.slice fA fn fc) := HK2.out.cell 1
      have f1' : (w2.alloc (.cells #[.int .i64 fn] 3)).cell? ⟨wo.heap.size, 1, none⟩ = some (.slice fA fn fc) := (HK2.out.alloc _).cell 1
      have hbw2 : w.heap.size + 1 ≤ w2.heap.size := by have := HK2.out.lt; omega
      go_wp2_with
        (at_builtin
         go_must (refine wpList_append_one _ rfl (.tmp 37) (.tmp 41) _ rfl (w.heap.size + 1) 3 i3 (.int .i64 0) 1 8 Try.underlying30 hi3 hz30 hz31 hz32 rfl (by decide) (.slice A2 (m + 1 + knm.size) c2) (m + 1 + knm.size) _ rfl (HR2.out.1.alloc _) w2.heap.size 1 3 #[.int .i64 fn] rfl (Bk.new _ _ _) rfl ?c1 (m + 1 + knm.size + 1) rfl ?c2 ?c3 ?c4 ?_)
         case c1 => simp [Value.oneCell']
         case c2 => unfold maxLen; omega
         case c3 => omega
         case c4 => simp; omega
         intro g3 c3 w3 hown3 hg3 hat3
         have hbk3 := HR2.out.box HK2.out (by decide) ((Below.refl _ _).alloc (Nat.le_refl _) _) hg3
         have f3 : w3.cell? ⟨wo.heap.size, 1, none⟩ = some (.slice fA fn fc) := hbk3.cell 1)
      have HR3 := Lib.hid (HR2.out.app (ys := [(fn : Int)]) (by rw [HSZ.out]; exact Nat.le_refl _) ((Below.refl _ _).alloc (Nat.le_refl _) _) hown3 hg3 rfl)
      clear hown3 hg3 hat3 hbk3 f3 f1 f1' HR2 HK2 HK1 HB1 e0 hbw2 HR
      obtain ⟨ys, hys⟩ : ∃ ys, ys = xs ++ textF knm ++ [(fn : Int)] := ⟨_, rfl⟩
      rw [← hys] at HR3
      have HYS := Lib.hid hys
      clear hys
      obtain ⟨m3, hm3⟩ : ∃ m3, m3 = m + 1 + knm.size + 1 := ⟨_, rfl⟩
      rw [← hm3] at HR3 ⊢
      have hm3' : m3 ≤ 2 + i * 200 + 18 := by omega
      clear hm3
      go_loopw [3, 46] (fun rv jv wx => ∃ (j m c : Nat) (A : Option Addr) (zs : List Int), j ≤ fn ∧ jv = .int .i64 j ∧ rv = .slice A m c ∧ m ≤ 2 + i * 200 + 18 + j * 20 ∧ Hid (RowT (w.heap.size + 1) W0 wx A m c zs) ∧ Hid (zs = ys ++ (k.fds.take j).flatMap fdN)) (fun _ jv _ => fn - (intOf jv).toNat)
      case atStart => exact ⟨0, m3, c3, _, ys, Nat.zero_le _, rfl, rfl, by omega, HR3, Lib.hid (by simp)⟩
      case round =>
        clear HR3
        obtain ⟨j, m4, c4, A4, zs, hj, rfl, rfl, hm4, HR, HZ⟩ := hrel
        obtain ⟨wx, rfl⟩ : ∃ z, z = wr := ⟨_, rfl⟩
        have hbx : w.heap.size + 1 ≤ wx.heap.size := by have := HR.out.2.2.size; have := HSZ.out; omega
        by_cases hjl : j < fn
        · obtain ⟨f, hf⟩ : ∃ f, k.fds[j]? = some f := ⟨_, List.getElem?_eq_getElem (by have := HKO.out.len; rw [HKV.out.2.2.1] at this; omega)⟩
          have hrd := (HKO.out.below (HR.out.2.2.mono (by omega))).rd
          rw [HKV.out.2.1, HKV.out.2.2.1] at hrd
          obtain ⟨fb, fo, rfl, hfb, p0, p1, p2⟩ := hrd.fd hjl hf
          have hf16 : f.nm.size ≤ 16 := HKF.out f (List.mem_of_getElem? hf)
          have HF := Lib.hid hf
          clear hrd hf
          generalize hfnm : f.nm = fnm at *
          generalize hfbt : f.bits = fbt at *
          generalize hflo : f.low = flo at *
          have HFV := Lib.hid (And.intro hfnm (And.intro hfbt hflo))
          clear hfnm hfbt hflo
          obtain ⟨w5, hw5⟩ : ∃ w5, w5 = wx.alloc (.cells #[.string fnm, .int .i64 fbt, .int .i64 flo] 66) := ⟨_, rfl⟩
          have HB5 : Hid (Below wx.heap.size wx w5) := Lib.hid (by rw [hw5]; exact (Below.refl _ _).alloc (Nat.le_refl _) _)
          have HF5 : Hid (Bk w5 wx.heap.size 66 #[.string fnm, .int .i64 fbt, .int .i64 flo]) := Lib.hid (by rw [hw5]; exact Bk.new _ _ _)
          have HR5 := Lib.hid (HR.out.below HB5.out (by rw [HSZ.out]; exact Nat.le_refl _))
          have HW5 := Lib.hid hw5
          clear hw5
          go_upto_region 10 with fail
          rw [← HW5.out]
          have hbx5 : w.heap.size + 1 ≤ w5.heap.size := by have := HB5.out.size; omega
          clear HW5 p0 p1 p2
          obtain ⟨hf, hhf⟩ : ∃ hf, hf = wx.heap.size := ⟨_, rfl⟩
          rw [← hhf] at HF5 ⊢
          clear hhf
          have e0 : w5.cell? ⟨hf, 0, none⟩ = some (.string fnm) := HF5.out.cell 0
          have e1 : w5.cell? ⟨hf, 1, none⟩ = some (.int .i64 fbt) := HF5.out.cell 1
          have e2 : w5.cell? ⟨hf, 2, none⟩ = some (.int .i64 flo) := HF5.out.cell 2
          have s5 : w5.drew.cell? ⟨hf, 0, none⟩ = some (.string fnm) ∧ w5.drew.cell? ⟨hf, 1, none⟩ = some (.int .i64 fbt) ∧ w5.drew.cell? ⟨hf, 2, none⟩ = some (.int .i64 flo) := ⟨e0, e1, e2⟩
          refine wp_region_E (S := fun wz => wz.cell? ⟨hf, 0, none⟩ = some (.string fnm) ∧ wz.cell? ⟨hf, 1, none⟩ = some (.int .i64 fbt) ∧ wz.cell? ⟨hf, 2, none⟩ = some (.int .i64 flo)) (last := 10) (by kernel_rfl) ?_
          refine wpAnyE_val (i := 0) (v := .slice A4 m4 c4) (d := some 50) rfl rfl (by kernel_rfl) (by kernel_rfl) (by kernel_rfl) (by kernel_rfl) (fun _ _ _ h => h) (Or.inl ⟨by rfl, fun w hS => by (obtain ⟨h0, h1, h2⟩ := hS; go_simp)⟩) s5 ?_
          (try simp only [Act.put, List.setIfInBounds_toArray, List.set_cons_zero, List.set_cons_succ])
          refine wpAnyE_val (i := 1) (v := .pointer (some ⟨hf, 0, none⟩)) (d := some 51) rfl rfl (by kernel_rfl) (by kernel_rfl) (by kernel_rfl) (by kernel_rfl) (fun _ _ _ h => h) (Or.inl ⟨by rfl, fun w hS => by (obtain ⟨h0, h1, h2⟩ := hS; go_simp)⟩) s5 ?_
          (try simp only [Act.put, List.setIfInBounds_toArray, List.set_cons_zero, List.set_cons_succ])
          refine wpAnyE_val (i := 2) (v := .string fnm) (d := some 52) rfl rfl (by kernel_rfl) (by kernel_rfl) (by kernel_rfl) (by kernel_rfl) (fun _ _ _ h => h) (Or.inl ⟨by rfl, fun w hS => by (obtain ⟨h0, h1, h2⟩ := hS; go_simp)⟩) s5 ?_
          (try simp only [Act.put, List.setIfInBounds_toArray, List.set_cons_zero, List.set_cons_succ])
          refine wpAnyE_val (i := 4) (v := .pointer (some ⟨hf, 1, none⟩)) (d := some 54) rfl rfl (by kernel_rfl) (by kernel_rfl) (by kernel_rfl) (by kernel_rfl) (fun _ _ _ h => h) (Or.inl ⟨by rfl, fun w hS => by (obtain ⟨h0, h1, h2⟩ := hS; go_simp)⟩) s5 ?_
          (try simp only [Act.put, List.setIfInBounds_toArray, List.set_cons_zero, List.set_cons_succ])
          refine wpAnyE_val (i := 5) (v := .int .i64 fbt) (d := some 55) rfl rfl (by kernel_rfl) (by kernel_rfl) (by kernel_rfl) (by kernel_rfl) (fun _ _ _ h => h) (Or.inl ⟨by rfl, fun w hS => by (obtain ⟨h0, h1, h2⟩ := hS; go_simp)⟩) s5 ?_
          (try simp only [Act.put, List.setIfInBounds_toArray, List.set_cons_zero, List.set_cons_succ])
          refine wpAnyE_val (i := 6) (v := .pointer (some ⟨hf, 2, none⟩)) (d := some 56) rfl rfl (by kernel_rfl) (by kernel_rfl) (by kernel_rfl) (by kernel_rfl) (fun _ _ _ h => h) (Or.inl ⟨by rfl, fun w hS => by (obtain ⟨h0, h1, h2⟩ := hS; go_simp)⟩) s5 ?_
          (try simp only [Act.put, List.setIfInBounds_toArray, List.set_cons_zero, List.set_cons_succ])
          refine wpAnyE_val (i := 7) (v := .int .i64 flo) (d := some 57) rfl rfl (by kernel_rfl) (by kernel_rfl) (by kernel_rfl) (by kernel_rfl) (fun _ _ _ h => h) (Or.inl ⟨by rfl, fun w hS => by (obtain ⟨h0, h1, h2⟩ := hS; go_simp)⟩) s5 ?_
          (try simp only [Act.put, List.setIfInBounds_toArray, List.set_cons_zero, List.set_cons_succ])
          refine wpAnyE_twoV (i := 3) (j := 8) rfl rfl (by kernel_rfl) rfl rfl ?_ ?_
          · go_simp
            go_at_call 185
            (with_reducible refine (gtext_any (w.heap.size + 1) m4 c4 A4 zs fnm _ ?ho (by omega) ?hs).mono ?_)
            case ho => (repeat' first | exact HR5.out.1 | refine World.ownsRow.alloc ?_ _ | refine World.ownsRow.drew ?_)
            case hs => (first | omega | (simp; omega))
            rintro e w6 ⟨A6, c6, rfl, hown6, hg6, hat6⟩
            have hF6 : Bk w6 hf 66 #[.string fnm, .int .i64 fbt, .int .i64 flo] := Bk.grown (by repeat' first | exact HF5.out | refine Bk.alloc ?_ _ | refine Bk.drew ?_) hg6 (fun e => own_ne HR5.out.1 HF5.out (by decide) e.symm)
            have HR6 := Lib.hid (HR5.out.text (by rw [HSZ.out]; exact Nat.le_refl _) (by repeat' first | exact Below.refl _ _ | refine Below.drew ?_ | refine Below.alloc ?_ (Nat.le_refl _) _) hown6 hg6)
            refine ⟨⟨hF6.cell 0, hF6.cell 1, hF6.cell 2⟩, ?_⟩
            (try simp only [Act.put, List.setIfInBounds_toArray, List.set_cons_zero, List.set_cons_succ])
            refine wpAnyE_one (i := 8) rfl (by kernel_rfl) rfl ?_
            go_simp
            (try refine ⟨⟨(hF6.alloc _).cell 0, (hF6.alloc _).cell 1, (hF6.alloc _).cell 2⟩, ?_⟩)
            (try simp only [Act.put, List.setIfInBounds_toArray, List.set_cons_zero, List.set_cons_succ])
            refine wpAnyE_if (i := 9) rfl (by kernel_rfl) rfl ?_
            refine step_append_rd rfl (.tmp 53) (.tmp 58) 30 rfl (w.heap.size + 1) 3 i3 (.int .i64 0) 1 8 Try.underlying30 hi3 hz30 hz31 hz32 rfl (by decide) (.slice A6 (m4 + 1 + fnm.size) c6) (m4 + 1 + fnm.size) _ rfl (hown6.alloc _) (w6.heap.size + 1) _ 2 2 [.int .i64 fbt, .int .i64 flo] rfl (Rd.new w6 3 2 1 #[.int .i64 fbt, .int .i64 flo] rfl) ?c1 (m4 + 1 + fnm.size + 2) rfl ?c2 ?c3 ?c4 ?_
            case c1 => simp [Value.oneCell']
            case c2 => unfold maxLen; omega
            case c3 => omega
            case c4 => (have := hg6.size; simp at this; simp; omega)
            intro A7 c7 w7 hown7 hg7
            have hF7 := (hF6.alloc (.cells #[.int .i64 fbt, .int .i64 flo] 3)).grown hg7 (fun e => own_ne hown6 hF6 (by decide) e.symm)
            refine ⟨fun _ => ⟨hF7.cell 0, hF7.cell 1, hF7.cell 2⟩, ?_⟩
            (try simp only [Act.put, List.setIfInBounds_toArray])
            refine wpAnyE_one (i := 10) rfl (by kernel_rfl) rfl ?_
            go_simp
            refine wpAnyE_done (by kernel_rfl) ?_ _
            have HRn := Lib.hid (HR6.out.app (ys := [fbt, flo]) (by rw [HSZ.out]; exact Nat.le_refl _) (by repeat' first | exact Below.refl _ _ | refine Below.drew ?_ | refine Below.alloc ?_ (Nat.le_refl _) _) hown7 hg7 rfl)
            have HZn : Hid (zs ++ textF fnm ++ [fbt, flo] = ys ++ (k.fds.take (j + 1)).flatMap fdN) := Lib.hid (by
              rw [List.take_add_one, HF.out, HZ.out]
              simp only [Option.toList, List.flatMap_append, List.flatMap_cons, List.flatMap_nil, List.append_nil, fdN, HFV.out.1, HFV.out.2.1, HFV.out.2.2, List.append_assoc])
            clear HR6 hown6 hg6 hat6 hF6 hF7 s5 hown7 hg7 e0 e1 e2
            go_wp2_with fail
            go_roundw
            case rel => exact ⟨j + 1, m4 + 1 + fnm.size + 2, c7, A7, _, by omega, by go_num, rfl, by omega, HRn, HZn⟩
            case measure => simp [intOf]; omega
          · go_simp
            (try refine ⟨⟨(HF5.out.alloc _).cell 0, (HF5.out.alloc _).cell 1, (HF5.out.alloc _).cell 2⟩, ?_⟩)
            (try simp only [Act.put, List.setIfInBounds_toArray, List.set_cons_zero, List.set_cons_succ])
            refine wpAnyE_one (i := 3) rfl (by kernel_rfl) rfl ?_
            go_simp
            go_at_call 185
            (with_reducible refine (gtext_any (w.heap.size + 1) m4 c4 A4 zs fnm _ ?ho (by omega) ?hs).mono ?_)
            case ho => (repeat' first | exact HR5.out.1 | refine World.ownsRow.alloc ?_ _ | refine World.ownsRow.drew ?_)
            case hs => (first | omega | (simp; omega))
            rintro e w6 ⟨A6, c6, rfl, hown6, hg6, hat6⟩
            have hF6 : Bk w6 hf 66 #[.string fnm, .int .i64 fbt, .int .i64 flo] := Bk.grown (by repeat' first | exact HF5.out | refine Bk.alloc ?_ _ | refine Bk.drew ?_) hg6 (fun e => own_ne HR5.out.1 HF5.out (by decide) e.symm)
            have HR6 := Lib.hid (HR5.out.text (by rw [HSZ.out]; exact Nat.le_refl _) (by repeat' first | exact Below.refl _ _ | refine Below.drew ?_ | refine Below.alloc ?_ (Nat.le_refl _) _) hown6 hg6)
            have hN6 : Bk w6 w5.heap.size 3 #[.int .i64 fbt, .int .i64 flo] := Bk.grown (by repeat' first | exact Bk.new _ _ _ | refine Bk.drew ?_) hg6 (fun e => by have := (HR5.out.1.lt _ e.symm).2; omega)
            refine ⟨⟨hF6.cell 0, hF6.cell 1, hF6.cell 2⟩, ?_⟩
            (try simp only [Act.put, List.setIfInBounds_toArray, List.set_cons_zero, List.set_cons_succ])
            refine wpAnyE_if (i := 9) rfl (by kernel_rfl) rfl ?_
            refine step_append_rd rfl (.tmp 53) (.tmp 58) 30 rfl (w.heap.size + 1) 3 i3 (.int .i64 0) 1 8 Try.underlying30 hi3 hz30 hz31 hz32 rfl (by decide) (.slice A6 (m4 + 1 + fnm.size) c6) (m4 + 1 + fnm.size) _ rfl hown6 w6.heap.size _ 2 2 [.int .i64 fbt, .int .i64 flo] rfl (Rd.ofBkV hN6 rfl) ?c1 (m4 + 1 + fnm.size + 2) rfl ?c2 ?c3 ?c4 ?_
            case c1 => simp [Value.oneCell']
            case c2 => unfold maxLen; omega
            case c3 => omega
            case c4 => (have := hg6.size; simp at this; simp; omega)
            intro A7 c7 w7 hown7 hg7
            have hF7 := hF6.grown hg7 (fun e => own_ne hown6 hF6 (by decide) e.symm)
            refine ⟨fun _ => ⟨hF7.cell 0, hF7.cell 1, hF7.cell 2⟩, ?_⟩
            (try simp only [Act.put, List.setIfInBounds_toArray])
            refine wpAnyE_one (i := 10) rfl (by kernel_rfl) rfl ?_
            go_simp
            refine wpAnyE_done (by kernel_rfl) ?_ _
            have HRn := Lib.hid (HR6.out.app (ys := [fbt, flo]) (by rw [HSZ.out]; exact Nat.le_refl _) (by repeat' first | exact Below.refl _ _ | refine Below.drew ?_ | refine Below.alloc ?_ (Nat.le_refl _) _) hown7 hg7 rfl)
            have HZn : Hid (zs ++ textF fnm ++ [fbt, flo] = ys ++ (k.fds.take (j + 1)).flatMap fdN) := Lib.hid (by
              rw [List.take_add_one, HF.out, HZ.out]
              simp only [Option.toList, List.flatMap_append, List.flatMap_cons, List.flatMap_nil, List.append_nil, fdN, HFV.out.1, HFV.out.2.1, HFV.out.2.2, List.append_assoc])
            clear HR6 hown6 hg6 hat6 hF6 hF7 s5 hown7 hg7 e0 e1 e2
            go_wp2_with fail
            go_roundw
            case rel => exact ⟨j + 1, m4 + 1 + fnm.size + 2, c7, A7, _, by omega, by go_num, rfl, by omega, HRn, HZn⟩
            case measure => simp [intOf]; omega
        · obtain rfl : j = fn := by omega
          have HZ2 : Hid (zs = [Tk, (kn : Int)] ++ (p.ks.take (i + 1)).flatMap kdN) := Lib.hid (by
            have h1 := HKO.out.len
            rw [HKV.out.2.2.1] at h1
            rw [HZ.out, HYS.out, HE.out, List.take_add_one, HKP.out, List.take_of_length_le (Nat.le_of_eq h1.symm)]
            simp only [Option.toList, List.flatMap_append, List.flatMap_cons, List.flatMap_nil, List.append_nil, kdN, Kd.p, HKV.out.1, h1, List.append_assoc])
          clear HZ HYS
          go_wp2_with fail
          go_roundw
          case rel => exact ⟨i + 1, m4, c4, A4, zs, by omega, by go_num, rfl, by omega, HR, HZ2⟩
          case measure => simp [intOf]; omega
    · obtain rfl : i = kn := by omega
      have HA : Hid (xs = flatA Tk p) := Lib.hid (by
        have h1 : p.ks.length = i := by rw [HP.out.1, List.length_map]; exact HKN.out.symm
        rw [HE.out, List.take_of_length_le (by omega)]
        unfold flatA
        rw [h1])
      clear HE
      have hbk := HX0.out.below HR.out.2.2 (by omega)
      have d2 : wo.cell? ⟨w.heap.size, 2, none⟩ = some (.slice gA gn gc) := hbk.cell 2
      clear hbk
      go_wp2_with
        (at_builtin
         go_must (refine wpList_append_one _ rfl (.tmp 62) (.tmp 67) _ rfl (w.heap.size + 1) 3 i3 (.int .i64 0) 1 8 Try.underlying30 hi3 hz30 hz31 hz32 rfl (by decide) (.slice A m c) (m) _ rfl (HR.out.1.alloc _) wo.heap.size 1 3 #[.int .i64 gn] rfl (Bk.new _ _ _) rfl ?c1 (m + 1) rfl ?c2 ?c3 ?c4 ?_)
         case c1 => simp [Value.oneCell']
         case c2 => unfold maxLen; omega
         case c3 => omega
         case c4 => simp; omega
         intro g1 c1 w1 hown1 hg1 hat1)
      have HR1 := Lib.hid (HR.out.app (ys := [(gn : Int)]) (by rw [HSZ.out]; exact Nat.le_refl _) ((Below.refl _ _).alloc (Nat.le_refl _) _) hown1 hg1 rfl)
      clear hown1 hg1 hat1 d2 HR
      have hbk1 := HX0.out.below HR1.out.2.2 (by omega)
      have HBX := Lib.hid hbk1
      have d2 : w1.cell? ⟨w.heap.size, 2, none⟩ = some (.slice gA gn gc) := hbk1.cell 2
      have d3 : w1.cell? ⟨w.heap.size, 3, none⟩ = some (.slice iA im ic) := hbk1.cell 3
      have d4 : w1.cell? ⟨w.heap.size, 4, none⟩ = some (.slice none 0 0) := hbk1.cell 4
      clear hbk1
      have hbw1 : w.heap.size + 1 ≤ w1.heap.size := by have := HR1.out.2.2.size; have := HSZ.out; omega
      have hrd : Rd w1 B 1 gA gn (gens.map (Value.int .i64)) := HGS.out.rd.below (HR1.out.2.2.mono (by omega))
      have HRD := Lib.hid hrd
      clear hrd
      have hone : ∀ u ∈ gens.map (Value.int .i64), u.oneCell' = true := fun u hu => by
        obtain ⟨z, _, rfl⟩ := List.mem_map.1 hu
        rfl
      have HON := Lib.hid hone
      clear hone
      have s5 : w1.drew.cell? ⟨w.heap.size, 2, none⟩ = some (.slice gA gn gc) ∧ w1.drew.cell? ⟨w.heap.size, 3, none⟩ = some (.slice iA im ic) ∧ w1.drew.cell? ⟨w.heap.size, 4, none⟩ = some (.slice none 0 0) := ⟨d2, d3, d4⟩
      go_cut [3] from 69 to 79 (fun rv wz => ∃ (A4 : Option Addr) (c4 : Nat), rv = .slice A4 (m + 1 + gn + 1) c4 ∧ Hid (RowT (w.heap.size + 1) W0 wz A4 (m + 1 + gn + 1) c4 (flatB Tk p)))
      case first =>
        refine wp_region_E (S := fun wz => wz.cell? ⟨w.heap.size, 2, none⟩ = some (.slice gA gn gc) ∧ wz.cell? ⟨w.heap.size, 3, none⟩ = some (.slice iA im ic) ∧ wz.cell? ⟨w.heap.size, 4, none⟩ = some (.slice none 0 0)) (last := 11) (by kernel_rfl) ?_
        refine wpAnyE_val (i := 0) (v := .slice (some ⟨g1, 0, none⟩) (m + 1) c1) (d := some 69) rfl rfl (by kernel_rfl) (by kernel_rfl) (by kernel_rfl) (by kernel_rfl) (fun _ _ _ h => h) (Or.inl ⟨by rfl, fun w hS => by (obtain ⟨h0, h1, h2⟩ := hS; go_simp)⟩) s5 ?_
        (try simp only [Act.put, List.setIfInBounds_toArray, List.set_cons_zero, List.set_cons_succ])
        refine wpAnyE_val (i := 1) (v := .pointer (some ⟨w.heap.size, 1, none⟩)) (d := some 70) rfl rfl (by kernel_rfl) (by kernel_rfl) (by kernel_rfl) (by kernel_rfl) (fun _ _ _ h => h) (Or.inl ⟨by rfl, fun w hS => by (obtain ⟨h0, h1, h2⟩ := hS; go_simp)⟩) s5 ?_
        (try simp only [Act.put, List.setIfInBounds_toArray, List.set_cons_zero, List.set_cons_succ])
        refine wpAnyE_val (i := 2) (v := .pointer (some ⟨w.heap.size, 2, none⟩)) (d := some 71) rfl rfl (by kernel_rfl) (by kernel_rfl) (by kernel_rfl) (by kernel_rfl) (fun _ _ _ h => h) (Or.inl ⟨by rfl, fun w hS => by (obtain ⟨h0, h1, h2⟩ := hS; go_simp)⟩) s5 ?_
        (try simp only [Act.put, List.setIfInBounds_toArray, List.set_cons_zero, List.set_cons_succ])
        refine wpAnyE_val (i := 3) (v := .slice gA gn gc) (d := some 72) rfl rfl (by kernel_rfl) (by kernel_rfl) (by kernel_rfl) (by kernel_rfl) (fun _ _ _ h => h) (Or.inl ⟨by rfl, fun w hS => by (obtain ⟨h0, h1, h2⟩ := hS; go_simp)⟩) s5 ?_
        (try simp only [Act.put, List.setIfInBounds_toArray, List.set_cons_zero, List.set_cons_succ])
        refine wpAnyE_val (i := 5) (v := .pointer (some ⟨w.heap.size, 1, none⟩)) (d := some 74) rfl rfl (by kernel_rfl) (by kernel_rfl) (by kernel_rfl) (by kernel_rfl) (fun _ _ _ h => h) (Or.inl ⟨by rfl, fun w hS => by (obtain ⟨h0, h1, h2⟩ := hS; go_simp)⟩) s5 ?_
        (try simp only [Act.put, List.setIfInBounds_toArray, List.set_cons_zero, List.set_cons_succ])
        refine wpAnyE_val (i := 6) (v := .pointer (some ⟨w.heap.size, 3, none⟩)) (d := some 75) rfl rfl (by kernel_rfl) (by kernel_rfl) (by kernel_rfl) (by kernel_rfl) (fun _ _ _ h => h) (Or.inl ⟨by rfl, fun w hS => by (obtain ⟨h0, h1, h2⟩ := hS; go_simp)⟩) s5 ?_
        (try simp only [Act.put, List.setIfInBounds_toArray, List.set_cons_zero, List.set_cons_succ])
        refine wpAnyE_val (i := 7) (v := .slice iA im ic) (d := some 76) rfl rfl (by kernel_rfl) (by kernel_rfl) (by kernel_rfl) (by kernel_rfl) (fun _ _ _ h => h) (Or.inl ⟨by rfl, fun w hS => by (obtain ⟨h0, h1, h2⟩ := hS; go_simp)⟩) s5 ?_
        (try simp only [Act.put, List.setIfInBounds_toArray, List.set_cons_zero, List.set_cons_succ])
        refine wpAnyE_val (i := 8) (v := .int .i64 im) (d := some 77) rfl rfl (by kernel_rfl) (by kernel_rfl) (by kernel_rfl) (by kernel_rfl) (fun _ _ _ h => h) (Or.inl ⟨by rfl, fun w hS => by (obtain ⟨h0, h1, h2⟩ := hS; go_simp)⟩) s5 ?_
        (try simp only [Act.put, List.setIfInBounds_toArray, List.set_cons_zero, List.set_cons_succ])
        refine wpAnyE_twoV (i := 4) (j := 9) rfl rfl (by kernel_rfl) rfl rfl ?_ ?_
        · refine of_wanted (ops := #[]) rfl ?_
          refine step_append_rd rfl (.tmp 69) (.tmp 72) 30 rfl (w.heap.size + 1) 3 i3 (.int .i64 0) 1 8 Try.underlying30 hi3 hz30 hz31 hz32 rfl (by decide) (.slice (some ⟨g1, 0, none⟩) (m + 1) c1) (m + 1) _ rfl HR1.out.1 B gA gn gc (gens.map (Value.int .i64)) rfl HRD.out ?c1 (m + 1 + gn) rfl ?c2 ?c3 ?c4 ?_
          case c1 => first | exact HON.out | simp [Value.oneCell']
          case c2 => unfold maxLen; omega
          case c3 => omega
          case c4 => first | omega | (simp; omega)
          intro A3 c3 w3 hown3 hg3
          have HR3 := Lib.hid (HR1.out.app (ys := gens) (by rw [HSZ.out]; exact Nat.le_refl _) ((Below.refl _ _).drew) hown3 hg3 rfl)
          have hB3 := HX0.out.below HR3.out.2.2 (by omega)
          refine ⟨fun _ => ⟨hB3.cell 2, hB3.cell 3, hB3.cell 4⟩, ?_⟩
          (try simp only [Act.put, List.setIfInBounds_toArray])
          refine wpAnyE_one (i := 9) rfl (by kernel_rfl) rfl ?_
          go_simp
          (try refine ⟨⟨(hB3.alloc _).cell 2, (hB3.alloc _).cell 3, (hB3.alloc _).cell 4⟩, ?_⟩)
          (try simp only [Act.put, List.setIfInBounds_toArray, List.set_cons_zero, List.set_cons_succ])
          refine wpAnyE_if (i := 10) rfl (by kernel_rfl) rfl ?_
          refine step_append_rd rfl (.tmp 73) (.tmp 78) 30 rfl (w.heap.size + 1) 3 i3 (.int .i64 0) 1 8 Try.underlying30 hi3 hz30 hz31 hz32 rfl (by decide) (.slice A3 (m + 1 + gn) c3) (m + 1 + gn) _ rfl (HR3.out.1.alloc _) (w3.heap.size + 1) _ 1 1 [.int .i64 im] rfl (Rd.new w3 3 1 1 #[.int .i64 im] rfl) ?c1 (m + 1 + gn + 1) rfl ?c2 ?c3 ?c4 ?_
          case c1 => first | exact HON.out | simp [Value.oneCell']
          case c2 => unfold maxLen; omega
          case c3 => omega
          case c4 => have := HR3.out.2.2.size; have := HSZ.out; first | omega | (simp; omega)
          intro A4 c4 w4 hown4 hg4
          have hB4 := (hB3.alloc (.cells #[.int .i64 im] 3)).grown hg4 (fun e => own_ne HR3.out.1 hB3 (by decide) e.symm)
          refine ⟨fun _ => ⟨hB4.cell 2, hB4.cell 3, hB4.cell 4⟩, ?_⟩
          (try simp only [Act.put, List.setIfInBounds_toArray])
          refine wpAnyE_one (i := 11) rfl (by kernel_rfl) rfl ?_
          go_simp
          refine wpAnyE_done (by kernel_rfl) ?_ _
          have HR4 : Hid (RowT (w.heap.size + 1) W0 w4 A4 (m + 1 + gn + 1) c4 (flatB Tk p)) := Lib.hid ((HR3.out.app (ys := [(im : Int)]) (by rw [HSZ.out]; exact Nat.le_refl _) ((Below.refl _ _).alloc (Nat.le_refl _) _) hown4 hg4 rfl).eq (by
            have h1 : im = its.length := HIS.out.len
            have h2 : gn = gens.length := HGS.out.len
            unfold flatB
            rw [HA.out, HP.out.2.1, HP.out.2.2, List.length_map, h1, h2]))
          go_wp2_with fail
          go_meet
          case rel => exact ⟨A4, c4, rfl, HR4⟩
        · go_simp
          (try refine ⟨⟨(HBX.out.alloc _).cell 2, (HBX.out.alloc _).cell 3, (HBX.out.alloc _).cell 4⟩, ?_⟩)
          (try simp only [Act.put, List.setIfInBounds_toArray, List.set_cons_zero, List.set_cons_succ])
          refine wpAnyE_one (i := 4) rfl (by kernel_rfl) rfl ?_
          refine of_wanted (ops := #[]) rfl ?_
          refine step_append_rd rfl (.tmp 69) (.tmp 72) 30 rfl (w.heap.size + 1) 3 i3 (.int .i64 0) 1 8 Try.underlying30 hi3 hz30 hz31 hz32 rfl (by decide) (.slice (some ⟨g1, 0, none⟩) (m + 1) c1) (m + 1) _ rfl (HR1.out.1.alloc _) B gA gn gc (gens.map (Value.int .i64)) rfl (HRD.out.keep (fun b hb => Below.heap_alloc _ _ _ (by omega))) ?c1 (m + 1 + gn) rfl ?c2 ?c3 ?c4 ?_
          case c1 => first | exact HON.out | simp [Value.oneCell']
          case c2 => unfold maxLen; omega
          case c3 => omega
          case c4 => first | omega | (simp; omega)
          intro A3 c3 w3 hown3 hg3
          have HR3 := Lib.hid (HR1.out.app (ys := gens) (by rw [HSZ.out]; exact Nat.le_refl _) ((Below.refl _ _).alloc (Nat.le_refl _) (.cells #[.int .i64 im] 3)).drew hown3 hg3 rfl)
          have hB3 := HX0.out.below HR3.out.2.2 (by omega)
          have hN3 : Bk w3 w1.heap.size 3 #[.int .i64 im] := Bk.grown (Bk.drew (Bk.new w1 3 #[.int .i64 im])) hg3 (fun e => by have := (HR1.out.1.lt _ e.symm).2; omega)
          refine ⟨fun _ => ⟨hB3.cell 2, hB3.cell 3, hB3.cell 4⟩, ?_⟩
          (try simp only [Act.put, List.setIfInBounds_toArray])
          refine wpAnyE_if (i := 10) rfl (by kernel_rfl) rfl ?_
          refine step_append_rd rfl (.tmp 73) (.tmp 78) 30 rfl (w.heap.size + 1) 3 i3 (.int .i64 0) 1 8 Try.underlying30 hi3 hz30 hz31 hz32 rfl (by decide) (.slice A3 (m + 1 + gn) c3) (m + 1 + gn) _ rfl HR3.out.1 w3.heap.size _ 1 1 [.int .i64 im] rfl (Rd.ofBkV hN3 rfl) ?c1 (m + 1 + gn + 1) rfl ?c2 ?c3 ?c4 ?_
          case c1 => first | exact HON.out | simp [Value.oneCell']
          case c2 => unfold maxLen; omega
          case c3 => omega
          case c4 => have := HR3.out.2.2.size; have := HSZ.out; first | omega | (simp; omega)
          intro A4 c4 w4 hown4 hg4
          have hB4 := hB3.grown hg4 (fun e => own_ne HR3.out.1 hB3 (by decide) e.symm)
          refine ⟨fun _ => ⟨hB4.cell 2, hB4.cell 3, hB4.cell 4⟩, ?_⟩
          (try simp only [Act.put])
          refine wpAnyE_one (i := 11) rfl (by kernel_rfl) rfl ?_
          go_simp
          refine wpAnyE_done (by kernel_rfl) ?_ _
          have HR4 : Hid (RowT (w.heap.size + 1) W0 w4 A4 (m + 1 + gn + 1) c4 (flatB Tk p)) := Lib.hid ((HR3.out.app (ys := [(im : Int)]) (by rw [HSZ.out]; exact Nat.le_refl _) (Below.refl _ _) hown4 hg4 rfl).eq (by
            have h1 : im = its.length := HIS.out.len
            have h2 : gn = gens.length := HGS.out.len
            unfold flatB
            rw [HA.out, HP.out.2.1, HP.out.2.2, List.length_map, h1, h2]))
          go_wp2_with fail
          go_meet
          case rel => exact ⟨A4, c4, rfl, HR4⟩
      case rest =>
        obtain ⟨A4, c4, rfl, HR4⟩ := hcut
        clear s5 d2 d3 d4 HRD HR1 HON HBX
        have hbk := HX0.out.below HR4.out.2.2 (by omega)
        have d3 : wc.cell? ⟨w.heap.size, 3, none⟩ = some (.slice iA im ic) := hbk.cell 3
        clear hbk
        obtain ⟨m5, hm5⟩ : ∃ m5, m5 = m + 1 + gn + 1 := ⟨_, rfl⟩
        rw [← hm5] at HR4 ⊢
        have hm5' : m5 ≤ 3500 := by omega
        clear hm5
        go_wp2_with fail
        go_loopw [3, 84] (fun rv iv wr => ∃ (k m c : Nat) (A : Option Addr) (zs : List Int), k ≤ im ∧ iv = .int .i64 k ∧ rv = .slice A m c ∧ m ≤ 3500 + k * 200 ∧ Hid (RowT (w.heap.size + 1) W0 wr A m c zs) ∧ Hid (zs = flatB Tk p ++ (p.its.take k).flatMap itN)) (fun _ iv _ => im - (intOf iv).toNat)
        case atStart => exact ⟨0, m5, c4, A4, _, Nat.zero_le _, rfl, rfl, by omega, HR4, Lib.hid (by simp)⟩
        case round =>
          clear HR4 d3 hm5'
          obtain ⟨k, m, c, A, zs, hk, rfl, rfl, hm, HR, HZ⟩ := hrel
          obtain ⟨wo, rfl⟩ : ∃ z, z = wr := ⟨_, rfl⟩
          have hbw : w.heap.size + 1 ≤ wo.heap.size := by have := HR.out.2.2.size; have := HSZ.out; omega
          by_cases hlt : k < im
          · obtain ⟨it, hit⟩ : ∃ it, its[k]? = some it := ⟨_, List.getElem?_eq_getElem (by have := HIS.out.len; omega)⟩
            have hiso := HIS.out.below (HR.out.2.2.mono (by omega))
            have hio := HIS.out.ok it (List.mem_of_getElem? hit)
            obtain ⟨b, o, rfl, hbb, q0, q1, q2⟩ := hiso.rd.it hlt hit
            have hip : p.its[k]? = some it.p := by rw [HP.out.2.2, List.getElem?_map, hit]; rfl
            have his := HS.out.it it.p (List.mem_of_getElem? hip)
            have hlen : it.cms.length ≤ 16 := by have h1 := his.1; unfold It.p at h1; simpa using h1
            have hcn16 : it.n ≤ 16 := by have h1 := hio.cs.len; omega
            have HCV : Hid (∀ z ∈ it.cms, z.vals.length ≤ 8) := Lib.hid fun z hz => his.2 z.p (by unfold It.p; exact List.mem_map.2 ⟨z, hz, rfl⟩)
            have HIP := Lib.hid hip
            obtain ⟨w1, hw1⟩ : ∃ w1, w1 = wo.alloc (.cells #[.int .i64 it.e, .int .i64 it.g, .slice it.A it.n it.c] 147) := ⟨_, rfl⟩
            have HB1 : Hid (Below wo.heap.size wo w1) := Lib.hid (by rw [hw1]; exact (Below.refl _ _).alloc (Nat.le_refl _) _)
            have HK1 : Hid (Bk w1 wo.heap.size 147 #[.int .i64 it.e, .int .i64 it.g, .slice it.A it.n it.c]) := Lib.hid (by rw [hw1]; exact Bk.new _ _ _)
            have HIO := Lib.hid hio.cs
            clear hiso hio hip his hit hlen
            generalize hie : it.e = ie at *
            generalize hig : it.g = ig at *
            generalize hcA : it.A = cA at *
            generalize hcn : it.n = cn at *
            generalize hcc : it.c = cc at *
            have HIV := Lib.hid (And.intro hie (And.intro hig (And.intro hcA (And.intro hcn hcc))))
            clear hie hig hcA hcn hcc
            have e0 : w1.cell? ⟨wo.heap.size, 0, none⟩ = some (.int .i64 ie) := HK1.out.cell 0
            have e1 : w1.cell? ⟨wo.heap.size, 1, none⟩ = some (.int .i64 ig) := HK1.out.cell 1
            have e2 : w1.cell? ⟨wo.heap.size, 2, none⟩ = some (.slice cA cn cc) := HK1.out.cell 2
            go_upto_region 18 with fail
            rw [← hw1]
            clear hw1 q0 q1 q2
            have HR1 := Lib.hid (HR.out.below HB1.out (by rw [HSZ.out]; exact Nat.le_refl _))
            have hbw1 : w.heap.size + 1 ≤ w1.heap.size := by have := HB1.out.size; omega
            go_wp2_with
              (at_builtin
               go_must (refine wpList_append_rd _ rfl (.tmp 88) (.tmp 98) _ rfl (w.heap.size + 1) 3 i3 (.int .i64 0) 1 8 Try.underlying30 hi3 hz30 hz31 hz32 rfl (by decide) (.slice A m c) m _ rfl (HR1.out.1.alloc _) (w1.heap.size + 1) _ 3 3 [.int .i64 ie, .int .i64 ig, .int .i64 cn] rfl (Rd.new w1 3 3 1 #[.int .i64 ie, .int .i64 ig, .int .i64 cn] rfl) ?c1 ?c2 ?c3 ?c4 ?_)
               case c1 => simp [Value.oneCell']
               case c2 => unfold maxLen; omega
               case c3 => omega
               case c4 => simp; omega
               intro A3 c3 w3 hown3 hg3 hat3
               have hbk3 := HR1.out.box HK1.out (by decide) ((Below.refl _ _).alloc (Nat.le_refl _) _) hg3
               have f3 : w3.cell? ⟨wo.heap.size, 2, none⟩ = some (.slice cA cn cc) := hbk3.cell 2)
            have HR3 := Lib.hid (HR1.out.app (ys := [ie, ig, (cn : Int)]) (by rw [HSZ.out]; exact Nat.le_refl _) ((Below.refl _ _).alloc (Nat.le_refl _) _) hown3 hg3 rfl)
            clear hown3 hg3 hat3 hbk3 f3 e0 e1 e2 HK1 HB1 HR1 HR
            obtain ⟨ys, hys⟩ : ∃ ys, ys = zs ++ [ie, ig, (cn : Int)] := ⟨_, rfl⟩
            rw [← hys] at HR3
            have HYS := Lib.hid hys
            clear hys
            go_loopw [3, 103] (fun rv jv wx => ∃ (j m4 c4 : Nat) (A4 : Option Addr) (us : List Int), j ≤ cn ∧ jv = .int .i64 j ∧ rv = .slice A4 m4 c4 ∧ m4 ≤ 3500 + k * 200 + 3 + j * 12 ∧ Hid (RowT (w.heap.size + 1) W0 wx A4 m4 c4 us) ∧ Hid (us = ys ++ ((it.cms.map Cm.p).take j).flatMap cmN)) (fun _ jv _ => cn - (intOf jv).toNat)
            case atStart => exact ⟨0, m + 3, c3, A3, ys, Nat.zero_le _, rfl, rfl, by omega, HR3, Lib.hid (by simp)⟩
            case round =>
              clear HR3
              obtain ⟨j, m4, c4, A4, us, hj, rfl, rfl, hm4, HR, HU⟩ := hrel
              obtain ⟨wx, rfl⟩ : ∃ z, z = wr := ⟨_, rfl⟩
              have hbx : w.heap.size + 1 ≤ wx.heap.size := by have := HR.out.2.2.size; have := HSZ.out; omega
              by_cases hjl : j < cn
              · obtain ⟨q, hq⟩ : ∃ q, it.cms[j]? = some q := ⟨_, List.getElem?_eq_getElem (by have := HIO.out.len; omega)⟩
                have hco := HIO.out.below (HR.out.2.2.mono (by omega))
                have hqo := hco.ok q (List.mem_of_getElem? hq)
                obtain ⟨fb, fo, rfl, hfb, p0, p1⟩ := hco.rd.cm hjl hq
                have hv8 : q.n ≤ 8 := by have h1 := hqo.len; have h2 := HCV.out q (List.mem_of_getElem? hq); omega
                have HRD : Hid (Rd wx B 1 q.A q.n (q.vals.map (Value.int .i64))) := Lib.hid hqo.rd
                have HLEN := Lib.hid hqo.len
                have HQ := Lib.hid hq
                have hone : ∀ u ∈ q.vals.map (Value.int .i64), u.oneCell' = true := fun u hu => by
                  obtain ⟨z, _, rfl⟩ := List.mem_map.1 hu
                  rfl
                have HON := Lib.hid hone
                clear hco hqo hq hone
                generalize hqk : q.k = qk at *
                generalize hqA : q.A = qA at *
                generalize hqn : q.n = qn at *
                generalize hqc : q.c = qc at *
                have HQV := Lib.hid (And.intro hqk (And.intro hqA (And.intro hqn hqc)))
                clear hqk hqA hqn hqc
                obtain ⟨w5, hw5⟩ : ∃ w5, w5 = wx.alloc (.cells #[.int .i64 qk, .slice qA qn qc] 166) := ⟨_, rfl⟩
                have HB5 : Hid (Below wx.heap.size wx w5) := Lib.hid (by rw [hw5]; exact (Below.refl _ _).alloc (Nat.le_refl _) _)
                have HF5 : Hid (Bk w5 wx.heap.size 166 #[.int .i64 qk, .slice qA qn qc]) := Lib.hid (by rw [hw5]; exact Bk.new _ _ _)
                have HR5 := Lib.hid (HR.out.below HB5.out (by rw [HSZ.out]; exact Nat.le_refl _))
                have HRD5 := Lib.hid (HRD.out.below (HB5.out.mono (by omega)))
                have HW5 := Lib.hid hw5
                clear hw5 HRD
                go_upto_region 22 with fail
                rw [← HW5.out]
                have hbx5 : w.heap.size + 1 ≤ w5.heap.size := by have := HB5.out.size; omega
                clear HW5 p0 p1
                obtain ⟨hf, hhf⟩ : ∃ hf, hf = wx.heap.size := ⟨_, rfl⟩
                rw [← hhf] at HF5 ⊢
                clear hhf
                have s5 : w5.drew.cell? ⟨hf, 0, none⟩ = some (.int .i64 qk) ∧ w5.drew.cell? ⟨hf, 1, none⟩ = some (.slice qA qn qc) := ⟨HF5.out.cell 0, HF5.out.cell 1⟩
                refine wp_region_E (S := fun wz => wz.cell? ⟨hf, 0, none⟩ = some (.int .i64 qk) ∧ wz.cell? ⟨hf, 1, none⟩ = some (.slice qA qn qc)) (last := 11) (by kernel_rfl) ?_
                refine wpAnyE_val (i := 0) (v := .slice A4 m4 c4) (d := some 107) rfl rfl (by kernel_rfl) (by kernel_rfl) (by kernel_rfl) (by kernel_rfl) (fun _ _ _ h => h) (Or.inl ⟨by rfl, fun w hS => by (obtain ⟨h0, h1⟩ := hS; go_simp)⟩) s5 ?_
                (try simp only [Act.put, List.setIfInBounds_toArray, List.set_cons_zero, List.set_cons_succ])
                refine wpAnyE_val (i := 1) (v := .pointer (some ⟨hf, 0, none⟩)) (d := some 108) rfl rfl (by kernel_rfl) (by kernel_rfl) (by kernel_rfl) (by kernel_rfl) (fun _ _ _ h => h) (Or.inl ⟨by rfl, fun w hS => by (obtain ⟨h0, h1⟩ := hS; go_simp)⟩) s5 ?_
                (try simp only [Act.put, List.setIfInBounds_toArray, List.set_cons_zero, List.set_cons_succ])
                refine wpAnyE_val (i := 2) (v := .int .i64 qk) (d := some 109) rfl rfl (by kernel_rfl) (by kernel_rfl) (by kernel_rfl) (by kernel_rfl) (fun _ _ _ h => h) (Or.inl ⟨by rfl, fun w hS => by (obtain ⟨h0, h1⟩ := hS; go_simp)⟩) s5 ?_
                (try simp only [Act.put, List.setIfInBounds_toArray, List.set_cons_zero, List.set_cons_succ])
                refine wpAnyE_val (i := 3) (v := .pointer (some ⟨hf, 1, none⟩)) (d := some 110) rfl rfl (by kernel_rfl) (by kernel_rfl) (by kernel_rfl) (by kernel_rfl) (fun _ _ _ h => h) (Or.inl ⟨by rfl, fun w hS => by (obtain ⟨h0, h1⟩ := hS; go_simp)⟩) s5 ?_
                (try simp only [Act.put, List.setIfInBounds_toArray, List.set_cons_zero, List.set_cons_succ])
                refine wpAnyE_val (i := 4) (v := .slice qA qn qc) (d := some 111) rfl rfl (by kernel_rfl) (by kernel_rfl) (by kernel_rfl) (by kernel_rfl) (fun _ _ _ h => h) (Or.inl ⟨by rfl, fun w hS => by (obtain ⟨h0, h1⟩ := hS; go_simp)⟩) s5 ?_
                (try simp only [Act.put, List.setIfInBounds_toArray, List.set_cons_zero, List.set_cons_succ])
                refine wpAnyE_val (i := 5) (v := .int .i64 qn) (d := some 112) rfl rfl (by kernel_rfl) (by kernel_rfl) (by kernel_rfl) (by kernel_rfl) (fun _ _ _ h => h) (Or.inl ⟨by rfl, fun w hS => by (obtain ⟨h0, h1⟩ := hS; go_simp)⟩) s5 ?_
                (try simp only [Act.put, List.setIfInBounds_toArray, List.set_cons_zero, List.set_cons_succ])
                refine wpAnyE_val (i := 8) (v := .pointer (some ⟨hf, 1, none⟩)) (d := some 115) rfl rfl (by kernel_rfl) (by kernel_rfl) (by kernel_rfl) (by kernel_rfl) (fun _ _ _ h => h) (Or.inl ⟨by rfl, fun w hS => by (obtain ⟨h0, h1⟩ := hS; go_simp)⟩) s5 ?_
                (try simp only [Act.put, List.setIfInBounds_toArray, List.set_cons_zero, List.set_cons_succ])
                refine wpAnyE_val (i := 9) (v := .slice qA qn qc) (d := some 116) rfl rfl (by kernel_rfl) (by kernel_rfl) (by kernel_rfl) (by kernel_rfl) (fun _ _ _ h => h) (Or.inl ⟨by rfl, fun w hS => by (obtain ⟨h0, h1⟩ := hS; go_simp)⟩) s5 ?_
                (try simp only [Act.put, List.setIfInBounds_toArray, List.set_cons_zero, List.set_cons_succ])
                refine wpAnyE_one (i := 6) rfl (by kernel_rfl) rfl ?_
                go_simp
                (try refine ⟨⟨(HF5.out.alloc _).cell 0, (HF5.out.alloc _).cell 1⟩, ?_⟩)
                (try simp only [Act.put, List.setIfInBounds_toArray, List.set_cons_zero, List.set_cons_succ])
                refine wpAnyE_if (i := 7) rfl (by kernel_rfl) rfl ?_
                refine step_append_rd rfl (.tmp 107) (.tmp 113) 30 rfl (w.heap.size + 1) 3 i3 (.int .i64 0) 1 8 Try.underlying30 hi3 hz30 hz31 hz32 rfl (by decide) (.slice A4 m4 c4) m4 _ rfl (HR5.out.1.alloc _) (w5.heap.size + 1) _ 2 2 [.int .i64 qk, .int .i64 qn] rfl (Rd.new w5 3 2 1 #[.int .i64 qk, .int .i64 qn] rfl) ?c1 (m4 + 2) rfl ?c2 ?c3 ?c4 ?_
                case c1 => simp [Value.oneCell']
                case c2 => unfold maxLen; omega
                case c3 => omega
                case c4 => simp; omega
                intro A6 c6 w6 hown6 hg6
                have HR6 := Lib.hid (HR5.out.app (ys := [qk, (qn : Int)]) (by rw [HSZ.out]; exact Nat.le_refl _) ((Below.refl _ _).alloc (Nat.le_refl _) (.cells #[.int .i64 qk, .int .i64 qn] 3)).drew hown6 hg6 rfl)
                have hF6 := HR5.out.box HF5.out (by decide) ((Below.refl _ _).alloc (Nat.le_refl _) (.cells #[.int .i64 qk, .int .i64 qn] 3)).drew hg6
                have HRD6 := Lib.hid (HRD5.out.below ((((Below.refl _ _).alloc (Nat.le_refl _) (.cells #[.int .i64 qk, .int .i64 qn] 3)).drew.mono (Nat.le_trans hB (by omega))).grown hg6 (by show B ≤ (w5.alloc _).heap.size; simp; omega) fun q hq => by have := (HR5.out.1.lt q hq).1; omega))
                refine ⟨fun _ => ⟨hF6.cell 0, hF6.cell 1⟩, ?_⟩
                (try simp only [Act.put, List.setIfInBounds_toArray])
                have hbx6 : w.heap.size + 1 ≤ w6.heap.size := by have := HR6.out.2.2.size; have := HSZ.out; omega
                refine wpAnyE_if (i := 10) rfl (by kernel_rfl) rfl ?_
                refine step_append_rd rfl (.tmp 114) (.tmp 116) 30 rfl (w.heap.size + 1) 3 i3 (.int .i64 0) 1 8 Try.underlying30 hi3 hz30 hz31 hz32 rfl (by decide) (.slice A6 (m4 + 2) c6) (m4 + 2) _ rfl HR6.out.1 B qA qn qc (q.vals.map (Value.int .i64)) rfl HRD6.out ?c1 (m4 + 2 + qn) rfl ?c2 ?c3 ?c4 ?_
                case c1 => exact HON.out
                case c2 => unfold maxLen; omega
                case c3 => omega
                case c4 => omega
                intro A7 c7 w7 hown7 hg7
                have HR7 := Lib.hid (HR6.out.app (ys := q.vals) (by rw [HSZ.out]; exact Nat.le_refl _) (Below.refl _ _) hown7 hg7 rfl)
                have hF7 := HR6.out.box hF6 (by decide) (Below.refl _ _) hg7
                refine ⟨fun _ => ⟨hF7.cell 0, hF7.cell 1⟩, ?_⟩
                (try simp only [Act.put])
                refine wpAnyE_one (i := 11) rfl (by kernel_rfl) rfl ?_
                go_simp
                refine wpAnyE_done (by kernel_rfl) ?_ _
                have HUn : Hid (us ++ [qk, (qn : Int)] ++ q.vals = ys ++ ((it.cms.map Cm.p).take (j + 1)).flatMap cmN) := Lib.hid (by
                  have h1 := HLEN.out
                  rw [List.take_add_one, List.getElem?_map, HQ.out, HU.out]
                  simp only [Option.map_some, Option.toList, List.flatMap_append, List.flatMap_cons, List.flatMap_nil, List.append_nil, cmN, Cm.p, HQV.out.1, h1, List.append_assoc])
                clear HR6 hown6 hg6 hF6 hF7 s5 hown7 hg7 HRD6 HRD5 HR5 HF5 HR HU
                go_wp2_with fail
                go_roundw
                case rel => exact ⟨j + 1, m4 + 2 + qn, c7, A7, _, by omega, by go_num, rfl, by omega, HR7, HUn⟩
                case measure => simp [intOf]; omega
              · obtain rfl : j = cn := by omega
                have HZ2 : Hid (us = flatB Tk p ++ (p.its.take (k + 1)).flatMap itN) := Lib.hid (by
                  have h1 := HIO.out.len
                  have h3 : (it.cms.map Cm.p).length = it.cms.length := List.length_map _
                  have h2 : it.p = ((it.e, it.g), it.cms.map Cm.p) := rfl
                  rw [HU.out, HYS.out, HZ.out, List.take_add_one, HIP.out, h2, List.take_of_length_le (l := it.cms.map Cm.p) (by omega)]
                  simp only [Option.toList, List.flatMap_append, List.flatMap_cons, List.flatMap_nil, List.append_nil, itN, HIV.out.1, HIV.out.2.1, h3, ← h1, List.append_assoc])
                clear HZ HYS HU
                go_wp2_with fail
                go_roundw
                case rel => exact ⟨k + 1, m4, c4, A4, us, by omega, by go_num, rfl, by omega, HR, HZ2⟩
                case measure => simp [intOf]; omega
          · obtain rfl : k = im := by omega
            have HZ2 : Hid (zs = flatB Tk p ++ p.its.flatMap itN) := Lib.hid (by
              have h1 : k = its.length := HIS.out.len
              have h2 : p.its.length = k := by rw [HP.out.2.2, List.length_map]; exact h1.symm
              rw [HZ.out, List.take_of_length_le (by omega)])
            clear HZ
            have hm9 : m ≤ 54700 := by omega
            have hbka := HX0.out.below HR.out.2.2 (by omega)
            have da : wo.cell? ⟨w.heap.size, 4, none⟩ = some (.slice none 0 0) := hbka.cell 4
            have hbwa : w.heap.size + 1 ≤ wo.heap.size := by have := HR.out.2.2.size; have := HSZ.out; omega
            go_wp2_with
              (at_builtin
               go_must (refine wpList_append_one _ rfl (.tmp 120) (.tmp 124) _ rfl (w.heap.size + 1) 3 i3 (.int .i64 0) 1 8 Try.underlying30 hi3 hz30 hz31 hz32 rfl (by decide) (.slice A m c) (m) _ rfl (HR.out.1.alloc _) wo.heap.size 1 3 #[.int .i64 0] rfl (Bk.new _ _ _) rfl ?c1 (m + 1) rfl ?c2 ?c3 ?c4 ?_)
               case c1 => simp [Value.oneCell']
               case c2 => unfold maxLen; omega
               case c3 => omega
               case c4 => simp; omega
               intro ga ca wa howna hga hata
               have hbkxa := HR.out.box hbka (by decide) ((Below.refl _ _).alloc (Nat.le_refl _) _) hga
               have fa : wa.cell? ⟨w.heap.size, 4, none⟩ = some (.slice none 0 0) := hbkxa.cell 4)
            have HRa := Lib.hid (HR.out.app (ys := [(0 : Int)]) (by rw [HSZ.out]; exact Nat.le_refl _) ((Below.refl _ _).alloc (Nat.le_refl _) _) howna hga rfl)
            clear howna hga hata hbkxa fa da hbka
            go_loopw [3, 129] (fun rv iv wr => iv = .int .i64 0 ∧ rv = .slice (some ⟨ga, 0, none⟩) (m + 1) ca ∧ wa = wr) (fun _ _ _ => 0)
            case atStart => exact ⟨rfl, rfl, rfl⟩
            obtain ⟨rfl, rfl, rfl⟩ := hrel
            have hbkb := HX0.out.below HRa.out.2.2 (by omega)
            have db : wa.cell? ⟨w.heap.size, 5, none⟩ = some (.slice none 0 0) := hbkb.cell 5
            have hbwb : w.heap.size + 1 ≤ wa.heap.size := by have := HRa.out.2.2.size; have := HSZ.out; omega
            go_wp2_with
              (at_builtin
               go_must (refine wpList_append_one _ rfl (.tmp 161) (.tmp 165) _ rfl (w.heap.size + 1) 3 i3 (.int .i64 0) 1 8 Try.underlying30 hi3 hz30 hz31 hz32 rfl (by decide) (.slice (some ⟨ga, 0, none⟩) (m + 1) ca) (m + 1) _ rfl (HRa.out.1.alloc _) wa.heap.size 1 3 #[.int .i64 0] rfl (Bk.new _ _ _) rfl ?c1 (m + 1 + 1) rfl ?c2 ?c3 ?c4 ?_)
               case c1 => simp [Value.oneCell']
               case c2 => unfold maxLen; omega
               case c3 => omega
               case c4 => simp; omega
               intro gb cb wb hownb hgb hatb
               have hbkxb := HRa.out.box hbkb (by decide) ((Below.refl _ _).alloc (Nat.le_refl _) _) hgb
               have fb : wb.cell? ⟨w.heap.size, 5, none⟩ = some (.slice none 0 0) := hbkxb.cell 5)
            have HRb := Lib.hid (HRa.out.app (ys := [(0 : Int)]) (by rw [HSZ.out]; exact Nat.le_refl _) ((Below.refl _ _).alloc (Nat.le_refl _) _) hownb hgb rfl)
            clear hownb hgb hatb hbkxb fb db hbkb
            go_loopw [3, 170] (fun rv iv wr => iv = .int .i64 0 ∧ rv = .slice (some ⟨gb, 0, none⟩) (m + 1 + 1) cb ∧ wb = wr) (fun _ _ _ => 0)
            case atStart => exact ⟨rfl, rfl, rfl⟩
            obtain ⟨rfl, rfl, rfl⟩ := hrel
            have hbkd := HX0.out.below HRb.out.2.2 (by omega)
            have dd : wb.cell? ⟨w.heap.size, 6, none⟩ = some (.slice none 0 0) := hbkd.cell 6
            have hbwd : w.heap.size + 1 ≤ wb.heap.size := by have := HRb.out.2.2.size; have := HSZ.out; omega
            go_wp2_with
              (at_builtin
               go_must (refine wpList_append_one _ rfl (.tmp 192) (.tmp 196) _ rfl (w.heap.size + 1) 3 i3 (.int .i64 0) 1 8 Try.underlying30 hi3 hz30 hz31 hz32 rfl (by decide) (.slice (some ⟨gb, 0, none⟩) (m + 1 + 1) cb) (m + 1 + 1) _ rfl (HRb.out.1.alloc _) wb.heap.size 1 3 #[.int .i64 0] rfl (Bk.new _ _ _) rfl ?c1 (m + 1 + 1 + 1) rfl ?c2 ?c3 ?c4 ?_)
               case c1 => simp [Value.oneCell']
               case c2 => unfold maxLen; omega
               case c3 => omega
               case c4 => simp; omega
               intro gd cd wd hownd hgd hatd
               have hbkxd := HRb.out.box hbkd (by decide) ((Below.refl _ _).alloc (Nat.le_refl _) _) hgd
               have fd : wd.cell? ⟨w.heap.size, 6, none⟩ = some (.slice none 0 0) := hbkxd.cell 6)
            have HRd := Lib.hid (HRb.out.app (ys := [(0 : Int)]) (by rw [HSZ.out]; exact Nat.le_refl _) ((Below.refl _ _).alloc (Nat.le_refl _) _) hownd hgd rfl)
            clear hownd hgd hatd hbkxd fd dd hbkd
            go_loopw [3, 201] (fun rv iv wr => iv = .int .i64 0 ∧ rv = .slice (some ⟨gd, 0, none⟩) (m + 1 + 1 + 1) cd ∧ wd = wr) (fun _ _ _ => 0)
            case atStart => exact ⟨rfl, rfl, rfl⟩
            obtain ⟨rfl, rfl, rfl⟩ := hrel
            go_wp2_with fail
            go_ret
            have hfl : flatN Tk p = zs ++ [(0 : Int)] ++ [(0 : Int)] ++ [(0 : Int)] := by rw [HZ2.out]; rfl
            have h1 := HRd.out
            rw [← hfl] at h1
            have e : (flatN Tk p).length = m + 1 + 1 + 1 := h1.2.1.symm
            refine ⟨some ⟨gd, 0, none⟩, cd, by rw [e]; rfl, by rw [e]; exact own_mono h1.1 (by omega), HB0.out.trans (h1.2.2.mono (by omega))⟩
end Go.Proofs.Ytnidcmhfbkdioaa
