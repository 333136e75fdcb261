/-
  Entities of templates in memory; slices.IndexFunc over them and over components, at the closures of prefab.over. Conditions: what is read can be read.
-/
import Derived.Test.YtnidcmhfbkdioaaMf
import Derived.Test.YtnidcmhfbkdioaaHa
namespace Go.Proofs.Ytnidcmhfbkdioaa
open Go.RowKit
set_option maxRecDepth 100000

/-- An entity of a template in memory: its path and its components. -/
structure Bt where
  pA : Option Addr
  pn : Nat
  pc : Nat
  path : List Int
  cA : Option Addr
  cn : Nat
  cc : Nat
  cms : List Cm
def Bt.cs (x : Bt) : List Value := [.slice x.pA x.pn x.pc, .slice x.cA x.cn x.cc]
def btCs (l : List Bt) : List Value := l.flatMap Bt.cs
def Bt.p (x : Bt) : List Int × List (Int × List Int) := (x.path, x.cms.map Cm.p)
structure BtOk (w : World) (B : Nat) (x : Bt) : Prop where
  rd : Rd w B 1 x.pA x.pn (x.path.map (Value.int .i64))
  len : x.pn = x.path.length
  cap : x.pn ≤ x.pc
  cap2 : x.pc ≤ 9223372036854775807
  cs : CsOk w B x.cA x.cn x.cc x.cms
theorem BtOk.below {w w' : World} {B : Nat} {x : Bt} (h : BtOk w B x) (hb : Below B w w') : BtOk w' B x := ⟨h.rd.below hb, h.len, h.cap, h.cap2, h.cs.below hb⟩
theorem btCs_length (l : List Bt) : (btCs l).length = l.length * 2 := by
  induction l with
  | nil => rfl
  | cons a l ih => rw [show btCs (a :: l) = Bt.cs a ++ btCs l by simp [btCs], List.length_append, ih, List.length_cons]; simp [Bt.cs]; omega
theorem btCs_get (l : List Bt) (k j : Nat) (f : Bt) (h : l[k]? = some f) (hj : j < 2) : (btCs l)[k * 2 + j]? = (Bt.cs f)[j]? := by
  induction l generalizing k with
  | nil => simp at h
  | cons a l ih =>
    have e : btCs (a :: l) = Bt.cs a ++ btCs l := by simp [btCs]
    rw [e]
    cases k with
    | zero =>
      have ea : a = f := by simpa using h
      subst ea
      rw [List.getElem?_append_left (by simp [Bt.cs]; omega)]
      congr 1; omega
    | succ k =>
      rw [List.getElem?_append_right (by simp [Bt.cs]; omega)]
      rw [show (k + 1) * 2 + j - (Bt.cs a).length = k * 2 + j by simp [Bt.cs]; omega]
      exact ih k (by simpa using h)
theorem Rd.bt {w : World} {B n : Nat} {A : Option Addr} {l : List Bt} {k : Nat} {f : Bt} (h : Rd w B 2 A n (btCs l)) (hk : k < n) (hf : l[k]? = some f) :
    ∃ b o, A = some ⟨b, o, none⟩ ∧ b < B ∧ w.cell? ⟨b, o + k * 2, none⟩ = some (.slice f.pA f.pn f.pc) ∧ w.cell? ⟨b, o + k * 2 + 1, none⟩ = some (.slice f.cA f.cn f.cc) := by
  obtain ⟨b, o, e, hb, hc⟩ := h.2 (by omega)
  exact ⟨b, o, e, hb, hc (k * 2) _ ((btCs_get l k 0 f hf (by omega)).trans rfl), by rw [Nat.add_assoc]; exact hc (k * 2 + 1) _ ((btCs_get l k 1 f hf (by omega)).trans rfl)⟩
structure BsOk (w : World) (B : Nat) (A : Option Addr) (n c : Nat) (l : List Bt) : Prop where
  rd : Rd w B 2 A n (btCs l)
  len : n = l.length
  cap : n ≤ c
  cap2 : c ≤ 9223372036854775807
  ok : ∀ x ∈ l, BtOk w B x
  lo : B ≤ w.heap.size
theorem BsOk.below {w w' : World} {B n c : Nat} {A : Option Addr} {l : List Bt} (h : BsOk w B A n c l) (hb : Below B w w') : BsOk w' B A n c l :=
  ⟨h.rd.below hb, h.len, h.cap, h.cap2, fun x hx => (h.ok x hx).below hb, Nat.le_trans h.lo hb.size⟩

/-- A replacement in a block of its own: its path, the kind and the field it names, its value. -/
structure OvB (w : World) (gb : Nat) (A : Option Addr) (n c : Nat) (path : List Int) (K F V : Int) : Prop where
  bk : Bk w gb 158 #[.slice A n c, .int .i64 K, .int .i64 F, .int .i64 V]
  rd : Rd w gb 1 A n (path.map (Value.int .i64))
  len : n = path.length
  cap : n ≤ c
  cap2 : c ≤ 9223372036854775807
theorem OvB.below {w w' : World} {gb n c : Nat} {A : Option Addr} {path : List Int} {K F V : Int} (h : OvB w gb A n c path K F V) (hb : Below w.heap.size w w') : OvB w' gb A n c path K F V :=
  ⟨h.bk.below hb h.bk.lt, h.rd.below (hb.mono (Nat.le_of_lt h.bk.lt)), h.len, h.cap, h.cap2⟩

theorem clo213_any (xk : Int) (xA : Option Addr) (xn : Nat) (xc : Nat) (gb : Nat) {n c : Nat} {A : Option Addr} {path : List Int} {K F V : Int} (w : World) (hb : OvB w gb A n c path K F V) :
    Calls Try.prog 213 #[.agg #[.int .i64 xk, .slice xA xn xc], .pointer (some ⟨gb, 0, none⟩)] w fun e w' => e = .returned (.bool (decide (xk = K))) ∧ Below w.heap.size w w' := by
  have hb1 : (w.alloc (.cells #[.int .i64 xk, .slice xA xn xc] 166)).cell? ⟨gb, 1, none⟩ = some (.int .i64 K) := (hb.bk.alloc _).cell 1
  have HB := Lib.hid ((Below.refl w.heap.size w).alloc (Nat.le_refl _) (.cells #[.int .i64 xk, .slice xA xn xc] 166))
  obtain ⟨d, hd⟩ : ∃ d, d = decide (xk = K) := ⟨_, rfl⟩
  have t0 : (xk == K) = d := by rw [hd]; rw [Bool.eq_iff_iff]; simp
  rw [← hd]
  clear hb hd
  cases d
  all_goals
    go_enter Try.func213, Try.ntmps213
    go_wp2_with fail
    go_ret
    exact ⟨rfl, HB.out⟩
theorem clo211_any (x : Bt) (gb B : Nat) {n c : Nat} {A : Option Addr} {path : List Int} {K F V : Int} (w : World) (hx : BtOk w B x) (hB : B ≤ w.heap.size) (hb : OvB w gb A n c path K F V) :
    Calls Try.prog 211 #[.agg #[.slice x.pA x.pn x.pc, .slice x.cA x.cn x.cc], .pointer (some ⟨gb, 0, none⟩)] w fun e w' => e = .returned (.bool (decide (x.path = path))) ∧ Below w.heap.size w w' := by
  have hbw : Below w.heap.size w (w.alloc (.cells #[.slice x.pA x.pn x.pc, .slice x.cA x.cn x.cc] 40)) := (Below.refl w.heap.size w).alloc (Nat.le_refl _) _
  have hb1 : (w.alloc (.cells #[.slice x.pA x.pn x.pc, .slice x.cA x.cn x.cc] 40)).cell? ⟨gb, 0, none⟩ = some (.slice A n c) := (hb.bk.alloc _).cell 0
  have HE := Lib.hid (equalInts_any x.pA A x.pn x.pc n c (w.alloc (.cells #[.slice x.pA x.pn x.pc, .slice x.cA x.cn x.cc] 40)).heap.size x.path path (w.alloc (.cells #[.slice x.pA x.pn x.pc, .slice x.cA x.cn x.cc] 40)) hx.len hb.len (by have := hx.cap; have := hx.cap2; omega) ((hx.rd.below (hbw.mono hB)).more (by have := hbw.size; omega)) (((hb.below hbw).rd).more (by have := hb.bk.lt; have := hbw.size; omega)))
  have HB := Lib.hid hbw
  obtain ⟨d, hd⟩ : ∃ d, d = decide (x.path = path) := ⟨_, rfl⟩
  rw [← hd] at HE ⊢
  clear hb hd hx hbw
  go_enter Try.func211, Try.ntmps211
  go_wp2_with fail
  with_reducible refine (HE.out).mono ?_
  rintro e w' ⟨rfl, m, rfl⟩
  go_wp2_with fail
  go_ret
  exact ⟨rfl, below_drewN HB.out m⟩

set_option maxHeartbeats 1600000 in
theorem idxOvC_any {w : World} {B n c : Nat} {A : Option Addr} {l : List Cm} (gb : Nat) {pn pc : Nat} {pA : Option Addr} {path : List Int} {K F V : Int} (h : CsOk w B A n c l) (hb : OvB w gb pA pn pc path K F V) :
    Calls Try.prog 212 #[.slice A n c, .func (.func 213) #[] #[.pointer (some ⟨gb, 0, none⟩)]] w fun e w' => e = .returned (.int .i64 (idxF (fun x : Cm => decide (x.k = K)) l)) ∧ Below w.heap.size w w' := by
  obtain ⟨R, hR⟩ : ∃ R, R = idxF (fun x : Cm => decide (x.k = K)) l := ⟨_, rfl⟩
  rw [← hR]
  have HR := Lib.hid hR
  have HK := Lib.hid h
  have HB := Lib.hid hb
  have hB := h.lo
  have hcap := h.cap
  have hcap2 := h.cap2
  clear h hR hb
  go_enter Try.func212, Try.ntmps212
  go_wp2_with fail
  go_loopw [8] (fun i wr => ∃ k : Nat, k ≤ n ∧ i = .int .i64 k ∧ Hid (∀ (j : Nat) (x : Cm), j < k → l[j]? = some x → ¬ (x.k = K)) ∧ Hid (Below w.heap.size w wr)) (fun i _ => n - (intOf i).toNat)
  case atStart => exact ⟨0, Nat.zero_le _, rfl, Lib.hid (fun j x hj => by omega), Lib.hid (Below.refl _ _)⟩
  case round =>
    obtain ⟨k, hk, rfl, HT, HW⟩ := hrel
    by_cases hlt : k < n
    · obtain ⟨x, hx⟩ : ∃ x, l[k]? = some x := ⟨_, List.getElem?_eq_getElem (by have := HK.out.len; omega)⟩
      have hkw := HK.out.below (HW.out.mono hB)
      obtain ⟨b, o, rfl, hbb, q0, q1⟩ := hkw.rd.cm hlt hx
      have hcl := clo213_any x.k x.A x.n x.c gb wr (HB.out.below HW.out)
      obtain ⟨d, hd⟩ : ∃ d, d = decide (x.k = K) := ⟨_, rfl⟩
      rw [← hd] at hcl
      have HCL := Lib.hid hcl
      have HX := Lib.hid hx
      have HD := Lib.hid hd
      have hkn : (k : Int) < n := by omega
      have hk0 : (0 : Int) ≤ k := by omega
      clear hx hcl hd hkw
      go_wp2_with fail
      (with_reducible refine HCL.out.mono ?_)
      rintro e w3 ⟨rfl, hb3⟩
      have HB3 := Lib.hid (HW.out.trans (hb3.mono HW.out.size))
      clear hb3
      cases d
      · go_wp2_with fail
        go_roundw
        case measure => simp [intOf]; omega
        case rel => exact ⟨k + 1, by omega, by go_num, Lib.hid (fun j y hj hy => by
          rcases Nat.lt_or_ge j k with h | h
          · exact HT.out j y h hy
          · obtain rfl : j = k := by omega
            rw [HX.out] at hy
            injection hy with hy
            rw [← hy]; exact of_decide_eq_false HD.out.symm), HB3⟩
      · go_wp2_with fail
        go_ret
        rw [HR.out, idxF_hit HX.out HD.out.symm fun j y hj hy => decide_eq_false (HT.out j y hj hy)]
        exact ⟨rfl, HB3.out⟩
    · obtain rfl : n = k := by omega
      go_wp2_with fail
      go_ret
      rw [HR.out, idxF_none fun j y hy => decide_eq_false (HT.out j y (by have := (List.getElem?_eq_some_iff.1 hy).1; have := HK.out.len; omega) hy)]
      exact ⟨rfl, HW.out⟩

set_option maxHeartbeats 1600000 in
theorem idxOvB_any {w : World} {B n c : Nat} {A : Option Addr} {l : List Bt} (gb : Nat) {pn pc : Nat} {pA : Option Addr} {path : List Int} {K F V : Int} (h : BsOk w B A n c l) (hb : OvB w gb pA pn pc path K F V) :
    Calls Try.prog 210 #[.slice A n c, .func (.func 211) #[] #[.pointer (some ⟨gb, 0, none⟩)]] w fun e w' => e = .returned (.int .i64 (idxF (fun x : Bt => decide (x.path = path)) l)) ∧ Below w.heap.size w w' := by
  obtain ⟨R, hR⟩ : ∃ R, R = idxF (fun x : Bt => decide (x.path = path)) l := ⟨_, rfl⟩
  rw [← hR]
  have HR := Lib.hid hR
  have HK := Lib.hid h
  have HB := Lib.hid hb
  have hB := h.lo
  have hcap := h.cap
  have hcap2 := h.cap2
  clear h hR hb
  go_enter Try.func210, Try.ntmps210
  go_wp2_with fail
  go_loopw [8] (fun i wr => ∃ k : Nat, k ≤ n ∧ i = .int .i64 k ∧ Hid (∀ (j : Nat) (x : Bt), j < k → l[j]? = some x → ¬ (x.path = path)) ∧ Hid (Below w.heap.size w wr)) (fun i _ => n - (intOf i).toNat)
  case atStart => exact ⟨0, Nat.zero_le _, rfl, Lib.hid (fun j x hj => by omega), Lib.hid (Below.refl _ _)⟩
  case round =>
    obtain ⟨k, hk, rfl, HT, HW⟩ := hrel
    by_cases hlt : k < n
    · obtain ⟨x, hx⟩ : ∃ x, l[k]? = some x := ⟨_, List.getElem?_eq_getElem (by have := HK.out.len; omega)⟩
      have hkw := HK.out.below (HW.out.mono hB)
      obtain ⟨b, o, rfl, hbb, q0, q1⟩ := hkw.rd.bt hlt hx
      have hcl := clo211_any x gb B wr (hkw.ok x (List.mem_of_getElem? hx)) (by have := HW.out.size; omega) (HB.out.below HW.out)
      obtain ⟨d, hd⟩ : ∃ d, d = decide (x.path = path) := ⟨_, rfl⟩
      rw [← hd] at hcl
      have HCL := Lib.hid hcl
      have HX := Lib.hid hx
      have HD := Lib.hid hd
      have hkn : (k : Int) < n := by omega
      have hk0 : (0 : Int) ≤ k := by omega
      clear hx hcl hd hkw
      go_wp2_with fail
      (with_reducible refine HCL.out.mono ?_)
      rintro e w3 ⟨rfl, hb3⟩
      have HB3 := Lib.hid (HW.out.trans (hb3.mono HW.out.size))
      clear hb3
      cases d
      · go_wp2_with fail
        go_roundw
        case measure => simp [intOf]; omega
        case rel => exact ⟨k + 1, by omega, by go_num, Lib.hid (fun j y hj hy => by
          rcases Nat.lt_or_ge j k with h | h
          · exact HT.out j y h hy
          · obtain rfl : j = k := by omega
            rw [HX.out] at hy
            injection hy with hy
            rw [← hy]; exact of_decide_eq_false HD.out.symm), HB3⟩
      · go_wp2_with fail
        go_ret
        rw [HR.out, idxF_hit HX.out HD.out.symm fun j y hj hy => decide_eq_false (HT.out j y hj hy)]
        exact ⟨rfl, HB3.out⟩
    · obtain rfl : n = k := by omega
      go_wp2_with fail
      go_ret
      rw [HR.out, idxF_none fun j y hy => decide_eq_false (HT.out j y (by have := (List.getElem?_eq_some_iff.1 hy).1; have := HK.out.len; omega) hy)]
      exact ⟨rfl, HW.out⟩
end Go.Proofs.Ytnidcmhfbkdioaa
