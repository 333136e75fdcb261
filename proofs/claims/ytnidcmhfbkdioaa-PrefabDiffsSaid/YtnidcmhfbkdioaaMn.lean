/-
  The clashes in memory; the contract of merger.vals. Conditions: what is read can be read; the three lists are of one length.
-/
import Derived.Test.YtnidcmhfbkdioaaMj
import Derived.Test.YtnidcmhfbkdioaaMm
namespace Go.Proofs.Ytnidcmhfbkdioaa
open Go.RowKit
set_option maxRecDepth 100000

def clC (c : Cl) : List Value := [.int .i64 c.1, .int .i64 c.2.1, .int .i64 c.2.2.1, .int .i64 c.2.2.2]
def clCs (l : List Cl) : List Value := l.flatMap clC
structure MgSt (w : World) (base m : Nat) (l : List Cl) : Prop where
  ex : ∃ A c, Bk w m 198 #[.slice A l.length c] ∧ w.ownsRow base 73 4 (.slice A l.length c) l.length (clCs l)
theorem T.infoCl : (Try.prog.info? 73).map (fun i => (i.zero, i.size, i.bytes)) = some (some (.agg #[.int .i64 0, .int .i64 0, .int .i64 0, .int .i64 0]), 4, 32) := by kernel_rfl
theorem Kp.setNew {base g : Nat} {e : TypeId} {a w : World} (h : Kp base e g a w) {p : Nat} (hp : a.heap.size ≤ p) (i : Nat) (u : Value) : Kp base e g a (w.setCell ⟨p, i, none⟩ u) :=
  ⟨h.os, h.tape, h.output, by simpa [World.setCell] using h.size, fun k h1 h2 h3 => (Below.heap_setCell _ _ _ _ (by show k ≠ p; omega)).trans (h.low k h1 h2 h3), fun k t cs h1 h2 h3 => (h.block k t cs h1 h2 h3).far (p := ⟨p, i, none⟩) (by show k ≠ p; have := h1.lt; omega) u⟩
theorem MgSt.lt {w : World} {base m : Nat} {l : List Cl} (h : MgSt w base m l) : m < w.heap.size := by
  obtain ⟨A, c, h1, _⟩ := h.ex
  exact h1.lt
theorem MgSt.below {w w' : World} {base m : Nat} {l : List Cl} (h : MgSt w base m l) (hb : Below w.heap.size w w') : MgSt w' base m l := by
  obtain ⟨A, c, h1, h2⟩ := h.ex
  exact ⟨A, c, h1.below hb h1.lt, (Kx.of_below (B := 0) (F := []) hb).own h2 (by simp)⟩
theorem MgSt.kx {w w' : World} {B base m : Nat} {l : List Cl} {F : List TypeId} (h : MgSt w base m l) (hq : Kx B F w w') (h1 : (198 : TypeId) ∉ F) (h2 : (73 : TypeId) ∉ F) : MgSt w' base m l := by
  obtain ⟨A, c, h3, h4⟩ := h.ex
  exact ⟨A, c, hq.bk h3 h1, hq.own h4 h2⟩
theorem Kx.of_kp {w w' : World} {B base m : Nat} {l : List Cl} (k : Kp base 73 m w w') (h : MgSt w base m l) (hB : B ≤ base) (hm : base ≤ m) : Kx B [73, 198] w w' := by
  obtain ⟨A, c, h1, _⟩ := h.ex
  exact Kx.refl.kp k h1 hB (by omega) (by simp) (by simp)

/-- A list in a block of the call's own. -/
def OutI (w : World) (base : Nat) (A : Option Addr) (n : Nat) (xs : List Int) : Prop :=
  xs.length = n ∧ (0 < n → ∃ g N, A = some ⟨g, 0, none⟩ ∧ base ≤ g ∧ n ≤ N ∧ Fill w g 3 1 N n (xs.map (Value.int .i64)))
theorem OutI.of_own {w : World} {base n c : Nat} {A : Option Addr} {xs : List Int} (h : w.ownsRow base 3 1 (.slice A n c) n (xs.map (Value.int .i64))) : OutI w base A n xs := by
  refine ⟨by have := h.1; simpa using this, fun hn => ?_⟩
  rcases h.2 with ⟨_, h0⟩ | ⟨g, cap, cur, hv, hb, hh, h1, _, hs, ht⟩
  · omega
  · injection hv with hA _ _
    exact ⟨g, cap, hA, hb, h1, ⟨cur, hh, hs, ht⟩⟩
theorem OutI.keep {w w' : World} {B base n : Nat} {A : Option Addr} {xs : List Int} {F : List TypeId} (h : OutI w base A n xs) (hq : Kx B F w w') (h3 : (3 : TypeId) ∉ F) : OutI w' base A n xs :=
  ⟨h.1, fun hn => by
    obtain ⟨g, N, h1, h2, h4, h5⟩ := h.2 hn
    exact ⟨g, N, h1, h2, h4, h5.keep hq h3⟩⟩
theorem OutI.rd {w : World} {B base n : Nat} {A : Option Addr} {xs : List Int} (h : OutI w base A n xs) : RdY w B 3 1 A n (xs.map (Value.int .i64)) := by
  refine ⟨by simp [h.1], fun hn => ?_⟩
  obtain ⟨g, N, h1, _, _, cs, h3, h4, h5⟩ := h.2 hn
  refine ⟨g, 0, h1, h3.lt, .inr ⟨cs, h3⟩, fun j u hu => (h3.cell _).trans ?_⟩
  rw [← h5, List.getElem?_take] at hu
  split at hu
  · rw [Nat.zero_add]; simpa using hu
  · cases hu
theorem OutI.set {w : World} {base n g N k : Nat} {xs : List Int} (h1 : xs.length = n) (hb : base ≤ g) (hn : n ≤ N) (hf : Fill w g 3 1 N n (xs.map (Value.int .i64))) (_hk : k < n) (v : Int) : OutI (w.setCell ⟨g, k, none⟩ (.int .i64 v)) base (some ⟨g, 0, none⟩) n (xs.set k v) := by
  refine ⟨by simp [h1], fun _ => ⟨g, N, rfl, hb, hn, ?_⟩⟩
  obtain ⟨cs, h3, h4, h5⟩ := hf
  refine ⟨_, h3.set_ k (.int .i64 v), by simp [h4], ?_⟩
  rw [Array.toList_setIfInBounds, List.take_set, h5, List.map_set]

def curF (o x y : List Int) (k : Nat) : List Int := (List.range x.length).map fun f : Nat => if f < k then valF (o.getD f 0) (x.getD f 0) (y.getD f 0) else x.getD f 0
theorem curF_zero (o x y : List Int) : curF o x y 0 = x := by
  unfold curF
  rw [show (fun f : Nat => if f < 0 then valF (o.getD f 0) (x.getD f 0) (y.getD f 0) else x.getD f 0) = fun f => x.getD f 0 from funext fun f => if_neg (by omega)]
  exact map_getD_range x
theorem curF_full (o x y : List Int) : curF o x y x.length = valsF o x y := by
  unfold curF valsF
  exact List.map_congr_left fun f hf => if_pos (by simpa using hf)
theorem curF_len (o x y : List Int) (k : Nat) : (curF o x y k).length = x.length := by simp [curF]
theorem curF_step (o x y : List Int) (k : Nat) : curF o x y (k + 1) = (curF o x y k).set k (valF (o.getD k 0) (x.getD k 0) (y.getD k 0)) := by
  apply List.ext_getElem?
  intro i
  rw [List.getElem?_set, curF_len]
  unfold curF
  by_cases hi : i < x.length
  · rw [List.getElem?_map, List.getElem?_map, List.getElem?_range hi]
    by_cases h : k = i
    · subst h
      rw [if_pos rfl, if_pos hi]
      show some (if k < k + 1 then _ else _) = _
      rw [if_pos (by omega)]
    · rw [if_neg h]
      show some (if i < k + 1 then _ else _) = some (if i < k then _ else _)
      by_cases h2 : i < k
      · rw [if_pos (by omega), if_pos h2]
      · rw [if_neg (by omega), if_neg h2]
  · rw [List.getElem?_eq_none (by simp; omega), List.getElem?_eq_none (by simp; omega)]
    split
    · split
      · omega
      · rfl
    · rfl
theorem curF_at (o x y : List Int) (k : Nat) (h : k < x.length) : (curF o x y k)[k]? = some (x.getD k 0) := by
  unfold curF
  rw [List.getElem?_map, List.getElem?_range h]
  show some (if k < k then _ else _) = _
  rw [if_neg (by omega)]
theorem curF_same (o x y : List Int) (k : Nat) (h : k < x.length) (hv : valF (o.getD k 0) (x.getD k 0) (y.getD k 0) = x.getD k 0) : curF o x y (k + 1) = curF o x y k := by
  rw [curF_step, hv]
  apply List.ext_getElem?
  intro i
  rw [List.getElem?_set]
  by_cases hi : k = i
  · subst hi
    rw [if_pos rfl, if_pos (by rw [curF_len]; exact h), curF_at o x y k h]
  · rw [if_neg hi]
theorem valsC_step (s kd : Int) (o x y : List Int) (k : Nat) : valsC s kd o x y (k + 1) = valsC s kd o x y k ++ if valB (o.getD k 0) (x.getD k 0) (y.getD k 0) = true then [(2, s, kd, (k : Int))] else [] := by
  unfold valsC
  rw [List.range_succ, List.filter_append, List.map_append]
  congr 1
  by_cases h : valB (o.getD k 0) (x.getD k 0) (y.getD k 0) = true
  · rw [if_pos h, List.filter_cons, if_pos h]; rfl
  · rw [if_neg h, List.filter_cons, if_neg h]; rfl
theorem clCs_snoc (l : List Cl) (c : Cl) : clCs (l ++ [c]) = clCs l ++ clC c := by simp [clCs]
theorem getD_get {l : List Int} {k : Nat} (h : k < l.length) : l[k]? = some (l.getD k 0) := by simp [List.getD, List.getElem?_eq_getElem h]

set_option maxHeartbeats 3200000 in
theorem vals_any (base m B : Nat) (s kd : Int) (oA xA yA : Option Addr) (n oc xc yc : Nat) (o x y : List Int) (L : List Cl) (w : World) (hst : MgSt w base m L) (hB : B ≤ base) (hm : base ≤ m) (hbw : base ≤ w.heap.size)
    (ho : n = o.length) (hx : n = x.length) (hy : n = y.length) (hn : n ≤ 1048576) (hL : L.length + n ≤ 1000000000) (hoc : n ≤ oc) (hoc2 : oc ≤ 9223372036854775807) (_hxc : n ≤ xc) (_hxc2 : xc ≤ 9223372036854775807) (_hyc : n ≤ yc) (_hyc2 : yc ≤ 9223372036854775807)
    (ro : Rd w B 1 oA n (o.map (Value.int .i64))) (rx : Rd w B 1 xA n (x.map (Value.int .i64))) (ry : Rd w B 1 yA n (y.map (Value.int .i64))) :
    Calls Try.prog 216 #[.pointer (some ⟨m, 0, none⟩), .int .i64 s, .int .i64 kd, .slice oA n oc, .slice xA n xc, .slice yA n yc] w fun e w' =>
      ∃ A c, e = .returned (.slice A n c) ∧ Hid (RdY w' 0 3 1 A n ((valsF o x y).map (Value.int .i64)) ∧ n ≤ c ∧ c ≤ 9223372036854775807) ∧ MgSt w' base m (L ++ valsC s kd o x y n) ∧ Kp base 73 m w w' := by
  obtain ⟨i0, hi0, hz0, hz1, hz2⟩ := info_parts T.infoCl
  have HCL := Lib.hid (cloneInts_any xA n xc B (x.map (Value.int .i64)) w rx (by intro u hu; obtain ⟨z, _, rfl⟩ := List.mem_map.1 hu; rfl) (by omega) (by omega))
  have HO := Lib.hid ho
  have HX := Lib.hid hx
  have HY := Lib.hid hy
  have HST := Lib.hid hst
  have hread : ∀ wr, Kp base 73 m w wr → Rd wr B 1 oA n (o.map (Value.int .i64)) ∧ Rd wr B 1 xA n (x.map (Value.int .i64)) ∧ Rd wr B 1 yA n (y.map (Value.int .i64)) := fun wr hk =>
    ⟨ro.keep fun b hb => hk.low b (by omega) (by omega) (by omega), rx.keep fun b hb => hk.low b (by omega) (by omega) (by omega), ry.keep fun b hb => hk.low b (by omega) (by omega) (by omega)⟩
  have HR := Lib.hid hread
  clear ho hx hy hst ro rx ry hread
  go_enter Try.func216, Try.ntmps216
  go_wp2_with fail
  (with_reducible refine HCL.out.mono ?_)
  rintro e w1 ⟨A, c, rfl, hown, hb1⟩
  have hcp := own_cap2 hown
  have HC := Lib.hid hcp
  have HO1 : Hid (OutI w1 w.heap.size A n (curF o x y 0)) := Lib.hid (by rw [curF_zero]; exact OutI.of_own hown)
  have HS1 : Hid (MgSt w1 base m (L ++ valsC s kd o x y 0)) := Lib.hid (by rw [show valsC s kd o x y 0 = [] from rfl, List.append_nil]; exact HST.out.below hb1)
  have HK1 : Hid (Kp base 73 m w w1) := Lib.hid (Kp.of_below hb1 (Nat.le_refl _))
  have hcA := hcp.1
  have hcA2 := hcp.2
  clear hown hb1 hcp HST HCL
  go_wp2_with fail
  go_loopw [19] (fun iv wr => ∃ k : Nat, k ≤ n ∧ iv = .int .i64 k ∧ Hid (OutI wr w.heap.size A n (curF o x y k)) ∧ Hid (MgSt wr base m (L ++ valsC s kd o x y k)) ∧ Hid (Kp base 73 m w wr)) (fun iv _ => n - (intOf iv).toNat)
  case atStart => exact ⟨0, Nat.zero_le _, rfl, HO1, HS1, HK1⟩
  case round =>
    clear HO1 HS1 HK1
    obtain ⟨k, hk, rfl, HO1, HS1, HK1⟩ := hrel
    by_cases hlt : k < n
    · obtain ⟨r1, r2, r3⟩ := HR.out wr HK1.out
      have hkz : (k : Int) < n := by omega
      have hk0 : (0 : Int) ≤ k := by omega
      obtain ⟨b1, o1, rfl, _, c1⟩ := r1.at1 hlt (intsV_get o k (by have := HO.out; omega))
      obtain ⟨b2, o2, rfl, _, c2⟩ := r2.at1 hlt (intsV_get x k (by have := HX.out; omega))
      obtain ⟨b3, o3, rfl, _, c3⟩ := r3.at1 hlt (intsV_get y k (by have := HY.out; omega))
      obtain ⟨gO, N, rfl, hgO, hnN, hF⟩ := HO1.out.2 (by omega)
      have hVS := curF_step o x y k
      have hVE := curF_same o x y k (by have := HX.out; omega)
      have hCS := valsC_step s kd o x y k
      have hco : wr.cell? ⟨gO, k, none⟩ = some (.int .i64 (x.getD k 0)) := by
        obtain ⟨cs, h1, h2, h3⟩ := hF
        refine (h1.cell k).trans ?_
        have h4 := congrArg (fun l => l[k]?) h3
        simp only [Nat.mul_one] at h4
        rw [List.getElem?_take, if_pos hlt, List.getElem?_map, curF_at o x y k (by have := HX.out; omega)] at h4
        simpa using h4
      have hfo := hF.frozen k
      generalize o.getD k 0 = ov at *
      generalize x.getD k 0 = xv at *
      generalize y.getD k 0 = yv at *
      have HF := Lib.hid hF
      have HVS := Lib.hid hVS
      have HVE := Lib.hid hVE
      have HCS := Lib.hid hCS
      clear hF hVS hVE hCS r1 r2 r3
      by_cases h1 : xv = yv
      · have t1 : (xv == yv) = true := by simp [h1]
        have HE1 : Hid (valF ov xv yv = xv ∧ valB ov xv yv = false) := Lib.hid ⟨by unfold valF; rw [if_pos (.inl h1)], by unfold valB; simp [h1]⟩
        clear h1
        go_wp2_with fail
        go_quiet (fail)
        have HON : Hid (OutI (wr.drewN nq) w.heap.size (some ⟨gO, 0, none⟩) n (curF o x y (k + 1))) := Lib.hid (by rw [HVE.out HE1.out.1]; exact HO1.out.keep (F := []) ((Kx.refl (B := 0)).drewN nq) (by simp))
        have HSN : Hid (MgSt (wr.drewN nq) base m (L ++ valsC s kd o x y (k + 1))) := Lib.hid (by rw [HCS.out, HE1.out.2, if_neg (by simp), List.append_nil]; exact HS1.out.kx (F := []) ((Kx.refl (B := 0)).drewN nq) (by simp) (by simp))
        have HKN := Lib.hid (HK1.out.drewN nq)
        go_wp2_with fail
        go_roundw
        case rel => exact ⟨k + 1, by omega, by go_num, HON, HSN, HKN⟩
        case measure => simp [intOf]; omega
      · have t1 : (xv == yv) = false := by simp [h1]
        by_cases h2 : yv = ov
        · have t2 : (yv == ov) = true := by simp [h2]
          have HE1 : Hid (valF ov xv yv = xv ∧ valB ov xv yv = false) := Lib.hid ⟨by unfold valF; rw [if_pos (.inr h2)], by unfold valB; simp [h2]⟩
          clear h1 h2
          go_wp2_with fail
          go_quiet (fail)
          have HON : Hid (OutI (wr.drewN nq) w.heap.size (some ⟨gO, 0, none⟩) n (curF o x y (k + 1))) := Lib.hid (by rw [HVE.out HE1.out.1]; exact HO1.out.keep (F := []) ((Kx.refl (B := 0)).drewN nq) (by simp))
          have HSN : Hid (MgSt (wr.drewN nq) base m (L ++ valsC s kd o x y (k + 1))) := Lib.hid (by rw [HCS.out, HE1.out.2, if_neg (by simp), List.append_nil]; exact HS1.out.kx (F := []) ((Kx.refl (B := 0)).drewN nq) (by simp) (by simp))
          have HKN := Lib.hid (HK1.out.drewN nq)
          go_wp2_with fail
          go_roundw
          case rel => exact ⟨k + 1, by omega, by go_num, HON, HSN, HKN⟩
          case measure => simp [intOf]; omega
        · have t2 : (yv == ov) = false := by simp [h2]
          by_cases h3 : xv = ov
          · have t3 : (xv == ov) = true := by simp [h3]
            have HE1 : Hid (valF ov xv yv = yv ∧ valB ov xv yv = false) := Lib.hid ⟨by unfold valF; rw [if_neg (by simp [h1, h2]), if_pos h3], by unfold valB; simp [h3]⟩
            clear h1 h2 h3
            have HON : Hid (∀ j, Hid (OutI ((wr.drewN j).setCell ⟨gO, k, none⟩ (.int .i64 yv)) w.heap.size (some ⟨gO, 0, none⟩) n (curF o x y (k + 1)))) := Lib.hid fun j => Lib.hid (by rw [HVS.out, HE1.out.1]; exact OutI.set HO1.out.1 hgO hnN (HF.out.keep (F := []) ((Kx.refl (B := 0)).drewN j) (by simp)) hlt yv)
            have HSN : Hid (∀ j, Hid (MgSt ((wr.drewN j).setCell ⟨gO, k, none⟩ (.int .i64 yv)) base m (L ++ valsC s kd o x y (k + 1)))) := Lib.hid fun j => Lib.hid (by
              rw [HCS.out, HE1.out.2, if_neg (by simp), List.append_nil]
              obtain ⟨cs, h1, _⟩ := HF.out.bk
              exact HS1.out.kx (F := [3]) (((Kx.refl (B := 0)).drewN j).set (h1.drewN j) (Nat.zero_le _) (by simp) k _) (by decide) (by decide))
            have HKN : Hid (∀ j, Hid (Kp base 73 m w ((wr.drewN j).setCell ⟨gO, k, none⟩ (.int .i64 yv)))) := Lib.hid fun j => Lib.hid ((HK1.out.drewN j).setNew hgO k _)
            go_wp2_with fail
            go_quiet (fail)
            go_wp2_with fail
            go_quiet (fail)
            go_wp2_with fail
            go_roundw
            case rel => exact ⟨k + 1, by omega, by go_num, HON.out _, HSN.out _, HKN.out _⟩
            case measure => simp [intOf]; omega
          · have t3 : (xv == ov) = false := by simp [h3]
            have HE1 : Hid (valF ov xv yv = xv ∧ valB ov xv yv = true) := Lib.hid ⟨by unfold valF; rw [if_neg (by simp [h1, h2]), if_neg h3], by unfold valB; simp [h1, h2, h3]⟩
            clear h1 h2 h3
            obtain ⟨q, hq⟩ : ∃ q, q = (L ++ valsC s kd o x y k).length := ⟨_, rfl⟩
            obtain ⟨CA, cc, hbk, how⟩ := HS1.out.ex
            rw [← hq] at hbk how
            have hql : q ≤ L.length + k := by
              rw [hq, List.length_append]
              have : (valsC s kd o x y k).length ≤ k := by unfold valsC; rw [List.length_map]; exact Nat.le_trans (List.length_filter_le _ _) (by simp)
              omega
            have c4 : wr.cell? ⟨m, 0, none⟩ = some (.slice CA q cc) := hbk.cell 0
            have HOW : Hid (∀ j, (wr.drewN j).ownsRow base 73 4 (.slice CA q cc) q (clCs (L ++ valsC s kd o x y k))) := Lib.hid fun j => how
            have HBK : Hid (∀ j, Bk (wr.drewN j) m 198 #[.slice CA q cc]) := Lib.hid fun j => hbk
            have HQ := Lib.hid hq
            have hws : base ≤ wr.heap.size := Nat.le_trans hbw HK1.out.size
            have hq9 : q + 1 ≤ 1000000001 := by omega
            have HLQ := Lib.hid hql
            clear hq hbk how hql
            go_wp2_with fail
            go_quiet (fail)
            go_wp2_with fail
            go_quiet (fail)
            go_wp2_with
              (at_builtin
               go_must (refine wpList_append_one _ rfl (.tmp 26) (.tmp 31) _ rfl base 73 i0 (.agg #[.int .i64 0, .int .i64 0, .int .i64 0, .int .i64 0]) 4 32 Try.underlying55 hi0 hz0 hz1 hz2 rfl (by decide) (.slice CA q cc) q (clCs (L ++ valsC s kd o x y k)) rfl ((HOW.out _).alloc _) wr.heap.size 1 73 #[.int .i64 2, .int .i64 s, .int .i64 kd, .int .i64 k] rfl (Bk.new _ _ _) rfl ?c1 (q + 1) rfl ?c2 ?c3 ?c4 ?_)
               case c1 => simp [Value.oneCell']
               case c2 => unfold maxLen; omega
               case c3 => omega
               case c4 => (simp; omega)
               intro g8 c8 w8 hown8 hg8 hat8
               have hne8 : some m ≠ (Value.slice CA q cc).ownBlock := fun e => own_ne (HOW.out 0) (HBK.out 0) (by decide) e.symm
               have hk8 : Bk w8 m 198 #[.slice CA q cc] := ((HBK.out _).alloc _).grown hg8 hne8
               have c81 : w8.cell? ⟨m, 0, none⟩ = some (.slice CA q cc) := hk8.cell 0
               have f81 := hk8.frozen 0
               have HK8 := Lib.hid hk8
               have HO8 := Lib.hid hown8
               have HG8 := Lib.hid hg8
               clear hk8 hown8 hg8 hat8 hne8)
            have hk9 : Bk (w8.setCell ⟨m, 0, none⟩ (.slice (some ⟨g8, 0, none⟩) (q + 1) c8)) m 198 #[.slice (some ⟨g8, 0, none⟩) (q + 1) c8] := by simpa using HK8.out.set_ 0 (.slice (some ⟨g8, 0, none⟩) (q + 1) c8)
            have hkx8 := ((Kx.refl (B := 0) (F := [73, 198]) (w := wr)).drewN _).alloc _ |>.grown ((HOW.out _).alloc _) HG8.out (Nat.zero_le _) (by simp)
            have hkx9 := hkx8.set HK8.out (Nat.zero_le _) (by simp) 0 (.slice (some ⟨g8, 0, none⟩) (q + 1) c8)
            have hLN : L ++ valsC s kd o x y (k + 1) = (L ++ valsC s kd o x y k) ++ [(2, s, kd, (k : Int))] := by rw [HCS.out, HE1.out.2, if_pos rfl, List.append_assoc]
            have HON : Hid (OutI (w8.setCell ⟨m, 0, none⟩ (.slice (some ⟨g8, 0, none⟩) (q + 1) c8)) w.heap.size (some ⟨gO, 0, none⟩) n (curF o x y (k + 1))) := Lib.hid (by rw [HVE.out HE1.out.1]; exact HO1.out.keep hkx9 (by decide))
            have HSN : Hid (MgSt (w8.setCell ⟨m, 0, none⟩ (.slice (some ⟨g8, 0, none⟩) (q + 1) c8)) base m (L ++ valsC s kd o x y (k + 1))) := Lib.hid (by
              rw [hLN]
              refine ⟨some ⟨g8, 0, none⟩, c8, ?_, ?_⟩
              · rw [List.length_append, ← HQ.out]; exact hk9
              · rw [List.length_append, ← HQ.out, clCs_snoc]
                exact (Kx.set (B := 0) (F := [198]) Kx.refl HK8.out (Nat.zero_le _) (by simp) 0 _).own HO8.out (by decide))
            have HKN : Hid (Kp base 73 m w (w8.setCell ⟨m, 0, none⟩ (.slice (some ⟨g8, 0, none⟩) (q + 1) c8))) := Lib.hid ((((HK1.out.drewN _).alloc _).grown ((HOW.out _).alloc _) HG8.out).setG 0 _)
            clear hk9 hkx8 hkx9 hLN
            go_wp2_with fail
            go_roundw
            case rel => exact ⟨k + 1, by omega, by go_num, HON, HSN, HKN⟩
            case measure => simp [intOf]; omega
    · obtain rfl : n = k := by omega
      go_wp2_with fail
      go_ret
      have h1 := HO1.out
      have h2 := HS1.out
      have hx := HX.out
      rw [hx, curF_full] at h1
      rw [← hx] at h1
      exact ⟨A, c, rfl, Lib.hid ⟨h1.rd, HC.out⟩, h2, HK1.out⟩
end Go.Proofs.Ytnidcmhfbkdioaa
