/-
  slices.SortStableFunc of replacements that are sorted already; their order; two builds side by side; prefab.Clean; sameBuilt. Conditions: what is read can be read.
-/
import Derived.Test.YtnidcmhfbkdioaaRa
import Derived.Test.YtnidcmhfbkdioaaRb
namespace Go.Proofs.Ytnidcmhfbkdioaa
open Go.RowKit
set_option maxRecDepth 100000

/-! ### Qj -/
/-- The closure's contract: what it answers. -/
def CmpOk (w : World) (l : List Ov) (F : Nat) (C : Ov → Ov → Int) : Prop := ∀ (wx : World) (x y : Ov), Below w.heap.size w wx → x ∈ l → y ∈ l → Calls Try.prog F #[.agg #[.slice x.pA x.pn x.pc, .int .i64 x.K, .int .i64 x.F, .int .i64 x.V], .agg #[.slice y.pA y.pn y.pc, .int .i64 y.K, .int .i64 y.F, .int .i64 y.V]] wx fun e w' => e = .returned (.int .i64 (C x y)) ∧ Below wx.heap.size wx w'
def SrtF (l : List Ov) (C : Ov → Ov → Int) : Prop := ∀ (i j : Nat) (x y : Ov), i < j → l[i]? = some x → l[j]? = some y → 0 ≤ C y x
theorem ov_cells {w : World} {B b o n c k : Nat} {l : List Ov} {x : Ov} (h : OvsOk w B (some ⟨b, o, none⟩) n c l) (hk : k < n) (hx : l[k]? = some x) :
    w.cell? ⟨b, o + k * 4, none⟩ = some (.slice x.pA x.pn x.pc) ∧ w.cell? ⟨b, o + k * 4 + 1, none⟩ = some (.int .i64 x.K) ∧ w.cell? ⟨b, o + k * 4 + 2, none⟩ = some (.int .i64 x.F) ∧ w.cell? ⟨b, o + k * 4 + 3, none⟩ = some (.int .i64 x.V) := by
  obtain ⟨b', o', e, _, h0, h1, h2, h3⟩ := h.rd.ov hk hx
  injection e with e
  injection e with e1 e2
  subst e1 e2
  exact ⟨h0, h1, h2, h3⟩
theorem CmpOk.below {w wx : World} {l : List Ov} {F : Nat} {C : Ov → Ov → Int} (h : CmpOk w l F C) (hb : Below w.heap.size w wx) : CmpOk wx l F C := fun wy x y hy hx hz => h wy x y (hb.trans (hy.mono hb.size)) hx hz

theorem wrap_smallJ {x : Int} (h1 : -9223372036854775808 ≤ x) (h2 : x ≤ 9223372036854775807) : wrap64 x = x := by unfold wrap64; omega

set_option maxHeartbeats 4000000 in
theorem insSort_any {w : World} {B n c F a e : Nat} {A : Option Addr} {l : List Ov} {C : Ov → Ov → Int} (hE : ∀ (ar : Array Value) (wx : World), (callFunc F ar).run Try.prog wx = .ok (.enter F ar) wx) (ho : OvsOk w B A n c l) (hC : CmpOk w l F C) (hS : SrtF l C) (hae : a ≤ e) (hen : e ≤ n) (hn : n ≤ 1000) :
    Calls Try.prog 206 #[.slice A n c, .int .i64 a, .int .i64 e, .func (.func F) #[] #[]] w fun e w' => e = .returned (.tuple #[]) ∧ Below w.heap.size w w' := by
  have hcap := ho.cap
  have hcap2 := ho.cap2
  have HO := Lib.hid ho
  have HC := Lib.hid hC
  have HSR := Lib.hid hS
  have HE := Lib.hid hE
  clear ho hC hS hE
  go_enter Try.func206, Try.ntmps206
  go_wp2_with fail
  go_loopw [8] (fun iv wr => ∃ i : Nat, a + 1 ≤ i ∧ i ≤ e + 1 ∧ iv = .int .i64 i ∧ Hid (Below w.heap.size w wr)) (fun iv _ => e + 1 - (intOf iv).toNat)
  case atStart => exact ⟨a + 1, Nat.le_refl _, by omega, by go_num, Lib.hid (Below.refl _ _)⟩
  case round =>
    obtain ⟨i, hia, hie, rfl, HW⟩ := hrel
    by_cases hlt : i < e
    · have hiz : (i : Int) < e := by omega
      obtain ⟨k, hk⟩ : ∃ k, i = k + 1 := ⟨i - 1, by omega⟩
      have HK := Lib.hid hk
      have HSUB : Hid (wrap64 ((i : Int) - 1) = (k : Int)) := Lib.hid (by rw [hk]; unfold wrap64; omega)
      have HSUB2 : Hid (IntKind.i64.wrap ((i : Int) - 1) = (k : Int)) := Lib.hid (by rw [hk, IntKind.wrap_i64]; omega)
      have hin : i < n := by omega
      have hkn : k < n := by omega
      have hka : (a : Int) < i := by omega
      have hi0 : (0 : Int) ≤ i := by omega
      have hk0 : (0 : Int) ≤ k := by omega
      have hinz : (i : Int) < n := by omega
      have hknz : (k : Int) < n := by omega
      clear hk
      obtain ⟨b, o, rfl⟩ : ∃ b o, A = some ⟨b, o, none⟩ := by
        obtain ⟨x, hx⟩ : ∃ x, l[i]? = some x := ⟨_, List.getElem?_eq_getElem (by have := HO.out.len; omega)⟩
        obtain ⟨b, o, e, _⟩ := HO.out.rd.ov hin hx
        exact ⟨b, o, e⟩
      go_wp2_with fail
      go_loopw [9] (fun jv wx => jv = .int .i64 i ∧ Hid (Below w.heap.size w wx)) (fun _ _ => 0)
      case atStart => exact ⟨rfl, HW⟩
      case round =>
        clear HW
        obtain ⟨rfl, HW⟩ := hrel
        obtain ⟨x, hx⟩ : ∃ x, l[i]? = some x := ⟨_, List.getElem?_eq_getElem (by have := HO.out.len; omega)⟩
        have HxC : Hid (∀ wz, Below w.heap.size w wz → wz.cell? ⟨b, o + i * 4, none⟩ = some (.slice x.pA x.pn x.pc) ∧ wz.cell? ⟨b, o + i * 4 + 1, none⟩ = some (.int .i64 x.K) ∧ wz.cell? ⟨b, o + i * 4 + 2, none⟩ = some (.int .i64 x.F) ∧ wz.cell? ⟨b, o + i * 4 + 3, none⟩ = some (.int .i64 x.V)) := Lib.hid fun wz hz => ov_cells (HO.out.below (hz.mono HO.out.lo)) (by omega) hx
        obtain ⟨y, hy⟩ : ∃ y, l[k]? = some y := ⟨_, List.getElem?_eq_getElem (by have := HO.out.len; omega)⟩
        have HyC : Hid (∀ wz, Below w.heap.size w wz → wz.cell? ⟨b, o + k * 4, none⟩ = some (.slice y.pA y.pn y.pc) ∧ wz.cell? ⟨b, o + k * 4 + 1, none⟩ = some (.int .i64 y.K) ∧ wz.cell? ⟨b, o + k * 4 + 2, none⟩ = some (.int .i64 y.F) ∧ wz.cell? ⟨b, o + k * 4 + 3, none⟩ = some (.int .i64 y.V)) := Lib.hid fun wz hz => ov_cells (HO.out.below (hz.mono HO.out.lo)) (by omega) hy
        have hxm := List.mem_of_getElem? hx
        have hym := List.mem_of_getElem? hy
        have hcp := HSR.out k i y x (by rw [HK.out]; exact Nat.lt_succ_self k) hy hx
        obtain ⟨cv, hcv⟩ : ∃ cv, cv = C x y := ⟨_, rfl⟩
        have HCALL : Hid (∀ wz, Below w.heap.size w wz → Calls Try.prog F #[.agg #[.slice x.pA x.pn x.pc, .int .i64 x.K, .int .i64 x.F, .int .i64 x.V], .agg #[.slice y.pA y.pn y.pc, .int .i64 y.K, .int .i64 y.F, .int .i64 y.V]] wz fun e w' => e = .returned (.int .i64 cv) ∧ Below wz.heap.size wz w') := Lib.hid fun wz hz => by rw [hcv]; exact HC.out wz x y hz hxm hym
        rw [← hcv] at hcp
        have hcp2 : ¬ (cv < 0) := by omega
        clear hx hy hxm hym hcv
        generalize x.pA = xA at *
        generalize x.pn = xn at *
        generalize x.pc = xc at *
        generalize x.K = xK at *
        generalize x.F = xF at *
        generalize x.V = xV at *
        generalize y.pA = yA at *
        generalize y.pn = yn at *
        generalize y.pc = yc at *
        generalize y.K = yK at *
        generalize y.F = yF at *
        generalize y.V = yV at *
        go_upto_region 4 with fail
        go_cut [34] from 18 to 33 (fun s34 wx => s34 = .bool false ∧ Hid (Below w.heap.size w wx))
        case first =>
          have s5 : Below w.heap.size w wr.drew := HW.out.drew
          refine wp_region_H (S := fun wz => Below w.heap.size w wz) (by kernel_rfl) ?_
          refine wpAnyH_val (i := 0) (v := .int .i64 (i : Int)) (d := some 18) rfl rfl (by kernel_rfl) (by kernel_rfl) (by kernel_rfl) (fun _ _ _ h => h) (Or.inl ⟨by rfl, fun w hS => by (obtain ⟨x0, x1, x2, x3⟩ := HxC.out w hS; obtain ⟨y0, y1, y2, y3⟩ := HyC.out w hS; go_simp)⟩) s5 ?_
          (try simp only [Act.put, List.setIfInBounds_toArray, List.set_cons_zero, List.set_cons_succ])
          refine wpAnyH_val (i := 1) (v := .int .i64 (a : Int)) (d := some 19) rfl rfl (by kernel_rfl) (by kernel_rfl) (by kernel_rfl) (fun _ _ _ h => h) (Or.inl ⟨by rfl, fun w hS => by (obtain ⟨x0, x1, x2, x3⟩ := HxC.out w hS; obtain ⟨y0, y1, y2, y3⟩ := HyC.out w hS; go_simp)⟩) s5 ?_
          (try simp only [Act.put, List.setIfInBounds_toArray, List.set_cons_zero, List.set_cons_succ])
          refine wpAnyH_val (i := 2) (v := .bool true) (d := some 20) rfl rfl (by kernel_rfl) (by kernel_rfl) (by kernel_rfl) (fun _ _ _ h => h) (Or.inl ⟨by rfl, fun w hS => by (obtain ⟨x0, x1, x2, x3⟩ := HxC.out w hS; obtain ⟨y0, y1, y2, y3⟩ := HyC.out w hS; go_simp)⟩) s5 ?_
          (try simp only [Act.put, List.setIfInBounds_toArray, List.set_cons_zero, List.set_cons_succ])
          refine wpAnyH_val (i := 3) (v := .bool true) (d := some 21) rfl rfl (by kernel_rfl) (by kernel_rfl) (by kernel_rfl) (fun _ _ _ h => h) (Or.inl ⟨by rfl, fun w hS => by (obtain ⟨x0, x1, x2, x3⟩ := HxC.out w hS; obtain ⟨y0, y1, y2, y3⟩ := HyC.out w hS; go_simp)⟩) s5 ?_
          (try simp only [Act.put, List.setIfInBounds_toArray, List.set_cons_zero, List.set_cons_succ])
          refine wpAnyH_val (i := 4) (v := .func (.func F) #[] #[]) (d := some 22) rfl rfl (by kernel_rfl) (by kernel_rfl) (by kernel_rfl) (fun _ _ _ h => h) (Or.inl ⟨by rfl, fun w hS => by (obtain ⟨x0, x1, x2, x3⟩ := HxC.out w hS; obtain ⟨y0, y1, y2, y3⟩ := HyC.out w hS; go_simp)⟩) s5 ?_
          (try simp only [Act.put, List.setIfInBounds_toArray, List.set_cons_zero, List.set_cons_succ])
          refine wpAnyH_val (i := 5) (v := .slice (some ⟨b, o, none⟩) n c) (d := some 23) rfl rfl (by kernel_rfl) (by kernel_rfl) (by kernel_rfl) (fun _ _ _ h => h) (Or.inl ⟨by rfl, fun w hS => by (obtain ⟨x0, x1, x2, x3⟩ := HxC.out w hS; obtain ⟨y0, y1, y2, y3⟩ := HyC.out w hS; go_simp)⟩) s5 ?_
          (try simp only [Act.put, List.setIfInBounds_toArray, List.set_cons_zero, List.set_cons_succ])
          refine wpAnyH_val (i := 6) (v := .int .i64 (i : Int)) (d := some 24) rfl rfl (by kernel_rfl) (by kernel_rfl) (by kernel_rfl) (fun _ _ _ h => h) (Or.inl ⟨by rfl, fun w hS => by (obtain ⟨x0, x1, x2, x3⟩ := HxC.out w hS; obtain ⟨y0, y1, y2, y3⟩ := HyC.out w hS; go_simp)⟩) s5 ?_
          (try simp only [Act.put, List.setIfInBounds_toArray, List.set_cons_zero, List.set_cons_succ])
          refine wpAnyH_val (i := 7) (v := .pointer (some ⟨b, o + i * 4, none⟩)) (d := some 25) rfl rfl (by kernel_rfl) (by kernel_rfl) (by kernel_rfl) (fun _ _ _ h => h) (Or.inl ⟨by rfl, fun w hS => by (obtain ⟨x0, x1, x2, x3⟩ := HxC.out w hS; obtain ⟨y0, y1, y2, y3⟩ := HyC.out w hS; go_simp)⟩) s5 ?_
          (try simp only [Act.put, List.setIfInBounds_toArray, List.set_cons_zero, List.set_cons_succ])
          refine wpAnyH_val (i := 8) (v := .agg #[.slice xA xn xc, .int .i64 xK, .int .i64 xF, .int .i64 xV]) (d := some 26) rfl rfl (by kernel_rfl) (by kernel_rfl) (by kernel_rfl) (fun _ _ _ h => h) (Or.inl ⟨by rfl, fun w hS => by (obtain ⟨x0, x1, x2, x3⟩ := HxC.out w hS; obtain ⟨y0, y1, y2, y3⟩ := HyC.out w hS; go_simp)⟩) s5 ?_
          (try simp only [Act.put, List.setIfInBounds_toArray, List.set_cons_zero, List.set_cons_succ])
          refine wpAnyH_val (i := 9) (v := .slice (some ⟨b, o, none⟩) n c) (d := some 27) rfl rfl (by kernel_rfl) (by kernel_rfl) (by kernel_rfl) (fun _ _ _ h => h) (Or.inl ⟨by rfl, fun w hS => by (obtain ⟨x0, x1, x2, x3⟩ := HxC.out w hS; obtain ⟨y0, y1, y2, y3⟩ := HyC.out w hS; go_simp)⟩) s5 ?_
          (try simp only [Act.put, List.setIfInBounds_toArray, List.set_cons_zero, List.set_cons_succ])
          refine wpAnyH_val (i := 10) (v := .int .i64 (i : Int)) (d := some 28) rfl rfl (by kernel_rfl) (by kernel_rfl) (by kernel_rfl) (fun _ _ _ h => h) (Or.inl ⟨by rfl, fun w hS => by (obtain ⟨x0, x1, x2, x3⟩ := HxC.out w hS; obtain ⟨y0, y1, y2, y3⟩ := HyC.out w hS; go_simp)⟩) s5 ?_
          (try simp only [Act.put, List.setIfInBounds_toArray, List.set_cons_zero, List.set_cons_succ])
          refine wpAnyH_val (i := 11) (v := .int .i64 (k : Int)) (d := some 29) rfl rfl (by kernel_rfl) (by kernel_rfl) (by kernel_rfl) (fun _ _ _ h => h) (Or.inl ⟨by rfl, fun w hS => by (obtain ⟨x0, x1, x2, x3⟩ := HxC.out w hS; obtain ⟨y0, y1, y2, y3⟩ := HyC.out w hS; have hsub := HSUB.out; have hsub2 := HSUB2.out; go_simp)⟩) s5 ?_
          (try simp only [Act.put, List.setIfInBounds_toArray, List.set_cons_zero, List.set_cons_succ])
          refine wpAnyH_val (i := 12) (v := .pointer (some ⟨b, o + k * 4, none⟩)) (d := some 30) rfl rfl (by kernel_rfl) (by kernel_rfl) (by kernel_rfl) (fun _ _ _ h => h) (Or.inl ⟨by rfl, fun w hS => by (obtain ⟨x0, x1, x2, x3⟩ := HxC.out w hS; obtain ⟨y0, y1, y2, y3⟩ := HyC.out w hS; go_simp)⟩) s5 ?_
          (try simp only [Act.put, List.setIfInBounds_toArray, List.set_cons_zero, List.set_cons_succ])
          refine wpAnyH_val (i := 13) (v := .agg #[.slice yA yn yc, .int .i64 yK, .int .i64 yF, .int .i64 yV]) (d := some 31) rfl rfl (by kernel_rfl) (by kernel_rfl) (by kernel_rfl) (fun _ _ _ h => h) (Or.inl ⟨by rfl, fun w hS => by (obtain ⟨x0, x1, x2, x3⟩ := HxC.out w hS; obtain ⟨y0, y1, y2, y3⟩ := HyC.out w hS; go_simp)⟩) s5 ?_
          (try simp only [Act.put, List.setIfInBounds_toArray, List.set_cons_zero, List.set_cons_succ])
          refine wpAnyH_oneW (i := 14) rfl (by kernel_rfl) (by rfl) ?_
          go_simp
          rw [HE.out, Oper.upon_enter]
          (with_reducible refine (HCALL.out _ s5).mono ?_)
          rintro e w6 ⟨rfl, hb6⟩
          have s6 : Below w.heap.size w w6 := s5.trans (hb6.mono s5.size)
          refine And.intro s6 ?_
          (try simp only [Act.put, List.setIfInBounds_toArray, List.set_cons_zero, List.set_cons_succ])
          refine wpAnyH_val (i := 15) (v := .bool false) (d := some 33) rfl rfl (by kernel_rfl) (by kernel_rfl) (by kernel_rfl) (fun _ _ _ h => h) (Or.inl ⟨by rfl, fun w hS => by (go_simp)⟩) s6 ?_
          (try simp only [Act.put, List.setIfInBounds_toArray, List.set_cons_zero, List.set_cons_succ])
          refine wpAnyH_val (i := 16) (v := .bool false) (d := some 34) rfl rfl (by kernel_rfl) (by kernel_rfl) (by kernel_rfl) (fun _ _ _ h => h) (Or.inl ⟨by rfl, fun w hS => by (go_simp)⟩) s6 ?_
          (try simp only [Act.put, List.setIfInBounds_toArray, List.set_cons_zero, List.set_cons_succ])
          refine wpAnyH_done (by kernel_rfl) ?_ _
          go_wp2_with fail
          go_meet
          case rel => exact ⟨rfl, Lib.hid s6⟩
        case rest =>
          obtain ⟨rfl, HW2⟩ := hcut
          clear HCALL HxC HyC HW
          go_wp2_with fail
          go_roundw
          case measure => simp [intOf]; omega
          case rel => exact ⟨i + 1, by omega, by omega, by go_num, HW2⟩
    · have hiz : ¬ ((i : Int) < e) := by omega
      go_wp2_with fail
      refine bodyPost_end (results_none rfl _ _ _) rfl ?_
      exact ⟨rfl, HW.out⟩

set_option maxHeartbeats 8000000 in
theorem symMerge_any {w0 : World} {B n c F : Nat} {A : Option Addr} {l : List Ov} {C : Ov → Ov → Int} (hE : ∀ (ar : Array Value) (wx : World), (callFunc F ar).run Try.prog wx = .ok (.enter F ar) wx) (ho : OvsOk w0 B A n c l) (hC : CmpOk w0 l F C) (hS : SrtF l C) (hn : n ≤ 1000) :
    ∀ (d a m e : Nat) (w : World), e - a ≤ d → a < m → m < e → e ≤ n → Below w0.heap.size w0 w → Calls Try.prog 207 #[.slice A n c, .int .i64 a, .int .i64 m, .int .i64 e, .func (.func F) #[] #[]] w fun e w' => e = .returned (.tuple #[]) ∧ Below w.heap.size w w' := by
  intro d
  induction d with
  | zero => intro a m e w hd ham hme; omega
  | succ d ih =>
    intro a m e w hd ham hme hen hbw
    have how := ho.below (hbw.mono ho.lo)
    have hcap := ho.cap
    have hcap2 := ho.cap2
    have HO := Lib.hid how
    have HC := Lib.hid (hC.below hbw)
    have HSR := Lib.hid hS
    have HE := Lib.hid hE
    obtain ⟨b, o, rfl⟩ : ∃ b o, A = some ⟨b, o, none⟩ := by
      obtain ⟨x, hx⟩ : ∃ x, l[a]? = some x := ⟨_, List.getElem?_eq_getElem (by have := how.len; omega)⟩
      obtain ⟨b, o, e, _⟩ := how.rd.ov (show a < n by omega) hx
      exact ⟨b, o, e⟩
    have HIH : Hid (∀ (a m e : Nat) (wx : World), e - a ≤ d → a < m → m < e → e ≤ n → Below w.heap.size w wx → Calls Try.prog 207 #[.slice (some ⟨b, o, none⟩) n c, .int .i64 a, .int .i64 m, .int .i64 e, .func (.func F) #[] #[]] wx fun e w' => e = .returned (.tuple #[]) ∧ Below wx.heap.size wx w') := Lib.hid fun a m e wx h1 h2 h3 h4 hb => ih a m e wx h1 h2 h3 h4 (hbw.trans (hb.mono hbw.size))
    clear ih ho hC hS hE how hbw
    have hw1 : wrap64 ((m : Int) - (a : Int)) = (m : Int) - a := wrap_smallJ (by omega) (by omega)
    have hw2 : wrap64 ((e : Int) - (m : Int)) = (e : Int) - m := wrap_smallJ (by omega) (by omega)
    by_cases h1 : m - a = 1
    · have t0 : (((m : Int) - a) == 1) = true := by simp; omega
      have HIM : Hid (m = a + 1) := Lib.hid (by omega)
      clear HIH h1
      go_enter Try.func207, Try.ntmps207
      go_wp2_with fail
      go_loopw [10, 11] (fun iv jv wx => ∃ jj : Nat, m ≤ jj ∧ jj ≤ e ∧ iv = .int .i64 m ∧ jv = .int .i64 jj ∧ Hid (Below w.heap.size w wx)) (fun _ jv _ => (intOf jv).toNat - m)
      case atStart => exact ⟨e, by omega, Nat.le_refl _, rfl, rfl, Lib.hid (Below.refl _ _)⟩
      case round =>
        obtain ⟨jj, hj1, hj2, rfl, rfl, HW⟩ := hrel
        by_cases hlt : m < jj
        · have hltz : (m : Int) < jj := by omega
          obtain ⟨h, hh⟩ : ∃ h, h = (m + jj) / 2 := ⟨_, rfl⟩
          have hh1 : m ≤ h := by omega
          have hh2 : h < jj := by omega
          have hcast : ((m : Int) + (jj : Int)) / 2 = (h : Int) := by omega
          have hhn : h < n := by omega
          have han : a < n := by omega
          have hhz : (h : Int) < n := by omega
          have hhz0 : (0 : Int) ≤ h := by omega
          have haz : (a : Int) < n := by omega
          have haz0 : (0 : Int) ≤ a := by omega
          clear hh
          obtain ⟨x, hx⟩ : ∃ x, l[h]? = some x := ⟨_, List.getElem?_eq_getElem (by have := HO.out.len; omega)⟩
          have HxC : Hid (∀ wz, Below w.heap.size w wz → wz.cell? ⟨b, o + h * 4, none⟩ = some (.slice x.pA x.pn x.pc) ∧ wz.cell? ⟨b, o + h * 4 + 1, none⟩ = some (.int .i64 x.K) ∧ wz.cell? ⟨b, o + h * 4 + 2, none⟩ = some (.int .i64 x.F) ∧ wz.cell? ⟨b, o + h * 4 + 3, none⟩ = some (.int .i64 x.V)) := Lib.hid fun wz hz => ov_cells (HO.out.below (hz.mono HO.out.lo)) (by omega) hx
          obtain ⟨y, hy⟩ : ∃ y, l[a]? = some y := ⟨_, List.getElem?_eq_getElem (by have := HO.out.len; omega)⟩
          have HyC : Hid (∀ wz, Below w.heap.size w wz → wz.cell? ⟨b, o + a * 4, none⟩ = some (.slice y.pA y.pn y.pc) ∧ wz.cell? ⟨b, o + a * 4 + 1, none⟩ = some (.int .i64 y.K) ∧ wz.cell? ⟨b, o + a * 4 + 2, none⟩ = some (.int .i64 y.F) ∧ wz.cell? ⟨b, o + a * 4 + 3, none⟩ = some (.int .i64 y.V)) := Lib.hid fun wz hz => ov_cells (HO.out.below (hz.mono HO.out.lo)) (by omega) hy
          have hxm := List.mem_of_getElem? hx
          have hym := List.mem_of_getElem? hy
          have hcp := HSR.out a h y x (by omega) hy hx
          obtain ⟨cv, hcv⟩ : ∃ cv, cv = C x y := ⟨_, rfl⟩
          have HCALL : Hid (∀ wz, Below w.heap.size w wz → Calls Try.prog F #[.agg #[.slice x.pA x.pn x.pc, .int .i64 x.K, .int .i64 x.F, .int .i64 x.V], .agg #[.slice y.pA y.pn y.pc, .int .i64 y.K, .int .i64 y.F, .int .i64 y.V]] wz fun e w' => e = .returned (.int .i64 cv) ∧ Below wz.heap.size wz w') := Lib.hid fun wz hz => by rw [hcv]; exact HC.out wz x y hz hxm hym
          rw [← hcv] at hcp
          have hcp2 : ¬ (cv < 0) := by omega
          clear hx hy hxm hym hcv
          generalize x.pA = xA at *
          generalize x.pn = xn at *
          generalize x.pc = xc at *
          generalize x.K = xK at *
          generalize x.F = xF at *
          generalize x.V = xV at *
          generalize y.pA = yA at *
          generalize y.pn = yn at *
          generalize y.pc = yc at *
          generalize y.K = yK at *
          generalize y.F = yF at *
          generalize y.V = yV at *
          go_upto_region 5 with fail
          go_cut [50] from 40 to 49 (fun s50 wx => s50 = .bool false ∧ Hid (Below w.heap.size w wx))
          case first =>
            have s5 : Below w.heap.size w wr.drew := HW.out.drew
            refine wp_region_H (S := fun wz => Below w.heap.size w wz) (by kernel_rfl) ?_
            refine wpAnyH_val (i := 0) (v := .func (.func F) #[] #[]) (d := some 40) rfl rfl (by kernel_rfl) (by kernel_rfl) (by kernel_rfl) (fun _ _ _ h => h) (Or.inl ⟨by rfl, fun w hS => by (obtain ⟨x0, x1, x2, x3⟩ := HxC.out w hS; obtain ⟨y0, y1, y2, y3⟩ := HyC.out w hS; go_simp)⟩) s5 ?_
            (try simp only [Act.put, List.setIfInBounds_toArray, List.set_cons_zero, List.set_cons_succ])
            refine wpAnyH_val (i := 1) (v := .slice (some ⟨b, o, none⟩) n c) (d := some 41) rfl rfl (by kernel_rfl) (by kernel_rfl) (by kernel_rfl) (fun _ _ _ h => h) (Or.inl ⟨by rfl, fun w hS => by (obtain ⟨x0, x1, x2, x3⟩ := HxC.out w hS; obtain ⟨y0, y1, y2, y3⟩ := HyC.out w hS; go_simp)⟩) s5 ?_
            (try simp only [Act.put, List.setIfInBounds_toArray, List.set_cons_zero, List.set_cons_succ])
            refine wpAnyH_val (i := 2) (v := .int .i64 (h : Int)) (d := some 42) rfl rfl (by kernel_rfl) (by kernel_rfl) (by kernel_rfl) (fun _ _ _ h => h) (Or.inl ⟨by rfl, fun w hS => by (obtain ⟨x0, x1, x2, x3⟩ := HxC.out w hS; obtain ⟨y0, y1, y2, y3⟩ := HyC.out w hS; go_simp)⟩) s5 ?_
            (try simp only [Act.put, List.setIfInBounds_toArray, List.set_cons_zero, List.set_cons_succ])
            refine wpAnyH_val (i := 3) (v := .pointer (some ⟨b, o + h * 4, none⟩)) (d := some 43) rfl rfl (by kernel_rfl) (by kernel_rfl) (by kernel_rfl) (fun _ _ _ h => h) (Or.inl ⟨by rfl, fun w hS => by (obtain ⟨x0, x1, x2, x3⟩ := HxC.out w hS; obtain ⟨y0, y1, y2, y3⟩ := HyC.out w hS; go_simp)⟩) s5 ?_
            (try simp only [Act.put, List.setIfInBounds_toArray, List.set_cons_zero, List.set_cons_succ])
            refine wpAnyH_val (i := 4) (v := .agg #[.slice xA xn xc, .int .i64 xK, .int .i64 xF, .int .i64 xV]) (d := some 44) rfl rfl (by kernel_rfl) (by kernel_rfl) (by kernel_rfl) (fun _ _ _ h => h) (Or.inl ⟨by rfl, fun w hS => by (obtain ⟨x0, x1, x2, x3⟩ := HxC.out w hS; obtain ⟨y0, y1, y2, y3⟩ := HyC.out w hS; go_simp)⟩) s5 ?_
            (try simp only [Act.put, List.setIfInBounds_toArray, List.set_cons_zero, List.set_cons_succ])
            refine wpAnyH_val (i := 5) (v := .slice (some ⟨b, o, none⟩) n c) (d := some 45) rfl rfl (by kernel_rfl) (by kernel_rfl) (by kernel_rfl) (fun _ _ _ h => h) (Or.inl ⟨by rfl, fun w hS => by (obtain ⟨x0, x1, x2, x3⟩ := HxC.out w hS; obtain ⟨y0, y1, y2, y3⟩ := HyC.out w hS; go_simp)⟩) s5 ?_
            (try simp only [Act.put, List.setIfInBounds_toArray, List.set_cons_zero, List.set_cons_succ])
            refine wpAnyH_val (i := 6) (v := .int .i64 (a : Int)) (d := some 46) rfl rfl (by kernel_rfl) (by kernel_rfl) (by kernel_rfl) (fun _ _ _ h => h) (Or.inl ⟨by rfl, fun w hS => by (obtain ⟨x0, x1, x2, x3⟩ := HxC.out w hS; obtain ⟨y0, y1, y2, y3⟩ := HyC.out w hS; go_simp)⟩) s5 ?_
            (try simp only [Act.put, List.setIfInBounds_toArray, List.set_cons_zero, List.set_cons_succ])
            refine wpAnyH_val (i := 7) (v := .pointer (some ⟨b, o + a * 4, none⟩)) (d := some 47) rfl rfl (by kernel_rfl) (by kernel_rfl) (by kernel_rfl) (fun _ _ _ h => h) (Or.inl ⟨by rfl, fun w hS => by (obtain ⟨x0, x1, x2, x3⟩ := HxC.out w hS; obtain ⟨y0, y1, y2, y3⟩ := HyC.out w hS; go_simp)⟩) s5 ?_
            (try simp only [Act.put, List.setIfInBounds_toArray, List.set_cons_zero, List.set_cons_succ])
            refine wpAnyH_val (i := 8) (v := .agg #[.slice yA yn yc, .int .i64 yK, .int .i64 yF, .int .i64 yV]) (d := some 48) rfl rfl (by kernel_rfl) (by kernel_rfl) (by kernel_rfl) (fun _ _ _ h => h) (Or.inl ⟨by rfl, fun w hS => by (obtain ⟨x0, x1, x2, x3⟩ := HxC.out w hS; obtain ⟨y0, y1, y2, y3⟩ := HyC.out w hS; go_simp)⟩) s5 ?_
            (try simp only [Act.put, List.setIfInBounds_toArray, List.set_cons_zero, List.set_cons_succ])
            refine wpAnyH_oneW (i := 9) rfl (by kernel_rfl) (by rfl) ?_
            go_simp
            rw [HE.out, Oper.upon_enter]
            (with_reducible refine (HCALL.out _ s5).mono ?_)
            rintro e w6 ⟨rfl, hb6⟩
            have s6 : Below w.heap.size w w6 := s5.trans (hb6.mono s5.size)
            refine And.intro s6 ?_
            (try simp only [Act.put, List.setIfInBounds_toArray, List.set_cons_zero, List.set_cons_succ])
            refine wpAnyH_val (i := 10) (v := .bool false) (d := some 50) rfl rfl (by kernel_rfl) (by kernel_rfl) (by kernel_rfl) (fun _ _ _ h => h) (Or.inl ⟨by rfl, fun w hS => by (go_simp)⟩) s6 ?_
            (try simp only [Act.put, List.setIfInBounds_toArray, List.set_cons_zero, List.set_cons_succ])
            refine wpAnyH_done (by kernel_rfl) ?_ _
            go_wp2_with fail
            go_meet
            case rel => exact ⟨rfl, Lib.hid s6⟩
          case rest =>
            obtain ⟨rfl, HW2⟩ := hcut
            clear HCALL HxC HyC HW
            go_wp2_with fail
            go_roundw
            case measure => simp [intOf]; omega
            case rel => exact ⟨h, hh1, by omega, rfl, rfl, HW2⟩
        · have hltz : ¬ ((m : Int) < jj) := by omega
          have hmz : ¬ ((a : Int) < (m : Int) - 1) := by have := HIM.out; omega
          have hm1 : wrap64 ((m : Int) - 1) = (m : Int) - 1 := wrap_smallJ (by omega) (by omega)
          go_wp2_with fail
          go_loopw [13] (fun kv wx => kv = .int .i64 a ∧ Hid (Below w.heap.size w wx)) (fun _ _ => 0)
          case atStart => exact ⟨rfl, HW⟩
          case round =>
            clear HW
            obtain ⟨rfl, HW⟩ := hrel
            go_wp2_with fail
            refine bodyPost_ret (results_none rfl _ _ _) rfl ?_
            exact ⟨rfl, HW.out⟩
    · have t0 : (((m : Int) - a) == 1) = false := by simp; omega
      by_cases h2 : e - m = 1
      · have t1 : (((e : Int) - m) == 1) = true := by simp; omega
        clear HIH h1 h2
        go_enter Try.func207, Try.ntmps207
        go_wp2_with fail
        go_loopw [14, 15] (fun iv jv wx => ∃ ii : Nat, a ≤ ii ∧ ii ≤ m ∧ iv = .int .i64 ii ∧ jv = .int .i64 m ∧ Hid (Below w.heap.size w wx)) (fun iv _ _ => m - (intOf iv).toNat)
        case atStart => exact ⟨a, Nat.le_refl _, by omega, rfl, rfl, Lib.hid (Below.refl _ _)⟩
        case round =>
          obtain ⟨ii, hj1, hj2, rfl, rfl, HW⟩ := hrel
          by_cases hlt : ii < m
          · have hltz : (ii : Int) < m := by omega
            obtain ⟨h, hh⟩ : ∃ h, h = (ii + m) / 2 := ⟨_, rfl⟩
            have hh1 : ii ≤ h := by omega
            have hh2 : h < m := by omega
            have hcast : ((ii : Int) + (m : Int)) / 2 = (h : Int) := by omega
            have hhn : h < n := by omega
            have hmn : m < n := by omega
            have hhz : (h : Int) < n := by omega
            have hhz0 : (0 : Int) ≤ h := by omega
            have hmz : (m : Int) < n := by omega
            have hmz0 : (0 : Int) ≤ m := by omega
            clear hh
            obtain ⟨x, hx⟩ : ∃ x, l[m]? = some x := ⟨_, List.getElem?_eq_getElem (by have := HO.out.len; omega)⟩
            have HxC : Hid (∀ wz, Below w.heap.size w wz → wz.cell? ⟨b, o + m * 4, none⟩ = some (.slice x.pA x.pn x.pc) ∧ wz.cell? ⟨b, o + m * 4 + 1, none⟩ = some (.int .i64 x.K) ∧ wz.cell? ⟨b, o + m * 4 + 2, none⟩ = some (.int .i64 x.F) ∧ wz.cell? ⟨b, o + m * 4 + 3, none⟩ = some (.int .i64 x.V)) := Lib.hid fun wz hz => ov_cells (HO.out.below (hz.mono HO.out.lo)) (by omega) hx
            obtain ⟨y, hy⟩ : ∃ y, l[h]? = some y := ⟨_, List.getElem?_eq_getElem (by have := HO.out.len; omega)⟩
            have HyC : Hid (∀ wz, Below w.heap.size w wz → wz.cell? ⟨b, o + h * 4, none⟩ = some (.slice y.pA y.pn y.pc) ∧ wz.cell? ⟨b, o + h * 4 + 1, none⟩ = some (.int .i64 y.K) ∧ wz.cell? ⟨b, o + h * 4 + 2, none⟩ = some (.int .i64 y.F) ∧ wz.cell? ⟨b, o + h * 4 + 3, none⟩ = some (.int .i64 y.V)) := Lib.hid fun wz hz => ov_cells (HO.out.below (hz.mono HO.out.lo)) (by omega) hy
            have hxm := List.mem_of_getElem? hx
            have hym := List.mem_of_getElem? hy
            have hcp := HSR.out h m y x (by omega) hy hx
            obtain ⟨cv, hcv⟩ : ∃ cv, cv = C x y := ⟨_, rfl⟩
            have HCALL : Hid (∀ wz, Below w.heap.size w wz → Calls Try.prog F #[.agg #[.slice x.pA x.pn x.pc, .int .i64 x.K, .int .i64 x.F, .int .i64 x.V], .agg #[.slice y.pA y.pn y.pc, .int .i64 y.K, .int .i64 y.F, .int .i64 y.V]] wz fun e w' => e = .returned (.int .i64 cv) ∧ Below wz.heap.size wz w') := Lib.hid fun wz hz => by rw [hcv]; exact HC.out wz x y hz hxm hym
            rw [← hcv] at hcp
            have hcp2 : ¬ (cv < 0) := by omega
            clear hx hy hxm hym hcv
            generalize x.pA = xA at *
            generalize x.pn = xn at *
            generalize x.pc = xc at *
            generalize x.K = xK at *
            generalize x.F = xF at *
            generalize x.V = xV at *
            generalize y.pA = yA at *
            generalize y.pn = yn at *
            generalize y.pc = yc at *
            generalize y.K = yK at *
            generalize y.F = yF at *
            generalize y.V = yV at *
            go_upto_region 17 with fail
            go_cut [103] from 92 to 102 (fun s103 wx => s103 = .bool true ∧ Hid (Below w.heap.size w wx))
            case first =>
              have s5 : Below w.heap.size w wr.drew := HW.out.drew
              refine wp_region_H (S := fun wz => Below w.heap.size w wz) (by kernel_rfl) ?_
              refine wpAnyH_val (i := 0) (v := .func (.func F) #[] #[]) (d := some 92) rfl rfl (by kernel_rfl) (by kernel_rfl) (by kernel_rfl) (fun _ _ _ h => h) (Or.inl ⟨by rfl, fun w hS => by (obtain ⟨x0, x1, x2, x3⟩ := HxC.out w hS; obtain ⟨y0, y1, y2, y3⟩ := HyC.out w hS; go_simp)⟩) s5 ?_
              (try simp only [Act.put, List.setIfInBounds_toArray, List.set_cons_zero, List.set_cons_succ])
              refine wpAnyH_val (i := 1) (v := .slice (some ⟨b, o, none⟩) n c) (d := some 93) rfl rfl (by kernel_rfl) (by kernel_rfl) (by kernel_rfl) (fun _ _ _ h => h) (Or.inl ⟨by rfl, fun w hS => by (obtain ⟨x0, x1, x2, x3⟩ := HxC.out w hS; obtain ⟨y0, y1, y2, y3⟩ := HyC.out w hS; go_simp)⟩) s5 ?_
              (try simp only [Act.put, List.setIfInBounds_toArray, List.set_cons_zero, List.set_cons_succ])
              refine wpAnyH_val (i := 2) (v := .int .i64 (m : Int)) (d := some 94) rfl rfl (by kernel_rfl) (by kernel_rfl) (by kernel_rfl) (fun _ _ _ h => h) (Or.inl ⟨by rfl, fun w hS => by (obtain ⟨x0, x1, x2, x3⟩ := HxC.out w hS; obtain ⟨y0, y1, y2, y3⟩ := HyC.out w hS; go_simp)⟩) s5 ?_
              (try simp only [Act.put, List.setIfInBounds_toArray, List.set_cons_zero, List.set_cons_succ])
              refine wpAnyH_val (i := 3) (v := .pointer (some ⟨b, o + m * 4, none⟩)) (d := some 95) rfl rfl (by kernel_rfl) (by kernel_rfl) (by kernel_rfl) (fun _ _ _ h => h) (Or.inl ⟨by rfl, fun w hS => by (obtain ⟨x0, x1, x2, x3⟩ := HxC.out w hS; obtain ⟨y0, y1, y2, y3⟩ := HyC.out w hS; go_simp)⟩) s5 ?_
              (try simp only [Act.put, List.setIfInBounds_toArray, List.set_cons_zero, List.set_cons_succ])
              refine wpAnyH_val (i := 4) (v := .agg #[.slice xA xn xc, .int .i64 xK, .int .i64 xF, .int .i64 xV]) (d := some 96) rfl rfl (by kernel_rfl) (by kernel_rfl) (by kernel_rfl) (fun _ _ _ h => h) (Or.inl ⟨by rfl, fun w hS => by (obtain ⟨x0, x1, x2, x3⟩ := HxC.out w hS; obtain ⟨y0, y1, y2, y3⟩ := HyC.out w hS; go_simp)⟩) s5 ?_
              (try simp only [Act.put, List.setIfInBounds_toArray, List.set_cons_zero, List.set_cons_succ])
              refine wpAnyH_val (i := 5) (v := .slice (some ⟨b, o, none⟩) n c) (d := some 97) rfl rfl (by kernel_rfl) (by kernel_rfl) (by kernel_rfl) (fun _ _ _ h => h) (Or.inl ⟨by rfl, fun w hS => by (obtain ⟨x0, x1, x2, x3⟩ := HxC.out w hS; obtain ⟨y0, y1, y2, y3⟩ := HyC.out w hS; go_simp)⟩) s5 ?_
              (try simp only [Act.put, List.setIfInBounds_toArray, List.set_cons_zero, List.set_cons_succ])
              refine wpAnyH_val (i := 6) (v := .int .i64 (h : Int)) (d := some 98) rfl rfl (by kernel_rfl) (by kernel_rfl) (by kernel_rfl) (fun _ _ _ h => h) (Or.inl ⟨by rfl, fun w hS => by (obtain ⟨x0, x1, x2, x3⟩ := HxC.out w hS; obtain ⟨y0, y1, y2, y3⟩ := HyC.out w hS; go_simp)⟩) s5 ?_
              (try simp only [Act.put, List.setIfInBounds_toArray, List.set_cons_zero, List.set_cons_succ])
              refine wpAnyH_val (i := 7) (v := .pointer (some ⟨b, o + h * 4, none⟩)) (d := some 99) rfl rfl (by kernel_rfl) (by kernel_rfl) (by kernel_rfl) (fun _ _ _ h => h) (Or.inl ⟨by rfl, fun w hS => by (obtain ⟨x0, x1, x2, x3⟩ := HxC.out w hS; obtain ⟨y0, y1, y2, y3⟩ := HyC.out w hS; go_simp)⟩) s5 ?_
              (try simp only [Act.put, List.setIfInBounds_toArray, List.set_cons_zero, List.set_cons_succ])
              refine wpAnyH_val (i := 8) (v := .agg #[.slice yA yn yc, .int .i64 yK, .int .i64 yF, .int .i64 yV]) (d := some 100) rfl rfl (by kernel_rfl) (by kernel_rfl) (by kernel_rfl) (fun _ _ _ h => h) (Or.inl ⟨by rfl, fun w hS => by (obtain ⟨x0, x1, x2, x3⟩ := HxC.out w hS; obtain ⟨y0, y1, y2, y3⟩ := HyC.out w hS; go_simp)⟩) s5 ?_
              (try simp only [Act.put, List.setIfInBounds_toArray, List.set_cons_zero, List.set_cons_succ])
              refine wpAnyH_oneW (i := 9) rfl (by kernel_rfl) (by rfl) ?_
              go_simp
              rw [HE.out, Oper.upon_enter]
              (with_reducible refine (HCALL.out _ s5).mono ?_)
              rintro e w6 ⟨rfl, hb6⟩
              have s6 : Below w.heap.size w w6 := s5.trans (hb6.mono s5.size)
              refine And.intro s6 ?_
              (try simp only [Act.put, List.setIfInBounds_toArray, List.set_cons_zero, List.set_cons_succ])
              refine wpAnyH_val (i := 10) (v := .bool false) (d := some 102) rfl rfl (by kernel_rfl) (by kernel_rfl) (by kernel_rfl) (fun _ _ _ h => h) (Or.inl ⟨by rfl, fun w hS => by (go_simp)⟩) s6 ?_
              (try simp only [Act.put, List.setIfInBounds_toArray, List.set_cons_zero, List.set_cons_succ])
              refine wpAnyH_val (i := 11) (v := .bool true) (d := some 103) rfl rfl (by kernel_rfl) (by kernel_rfl) (by kernel_rfl) (fun _ _ _ h => h) (Or.inl ⟨by rfl, fun w hS => by (go_simp)⟩) s6 ?_
              (try simp only [Act.put, List.setIfInBounds_toArray, List.set_cons_zero, List.set_cons_succ])
              refine wpAnyH_done (by kernel_rfl) ?_ _
              go_wp2_with fail
              go_meet
              case rel => exact ⟨rfl, Lib.hid s6⟩
            case rest =>
              obtain ⟨rfl, HW2⟩ := hcut
              clear HCALL HxC HyC HW
              go_wp2_with fail
              go_roundw
              case measure => simp [intOf]; omega
              case rel => exact ⟨h + 1, by omega, by omega, by go_num, rfl, HW2⟩
          · have hltz : ¬ ((ii : Int) < m) := by omega
            obtain rfl : ii = m := by omega
            go_wp2_with fail
            go_loopw [17] (fun kv wx => kv = .int .i64 ii ∧ Hid (Below w.heap.size w wx)) (fun _ _ => 0)
            case atStart => exact ⟨rfl, HW⟩
            case round =>
              clear HW
              obtain ⟨rfl, HW⟩ := hrel
              go_wp2_with fail
              refine bodyPost_ret (results_none rfl _ _ _) rfl ?_
              exact ⟨rfl, HW.out⟩
      · have t1 : (((e : Int) - m) == 1) = false := by simp; omega
        obtain ⟨md, hmd⟩ : ∃ md, md = (a + e) / 2 := ⟨_, rfl⟩
        have hcm : ((a : Int) + (e : Int)) / 2 = (md : Int) := by omega
        have HMD : Hid (2 * md ≤ a + e ∧ a + e ≤ 2 * md + 1) := Lib.hid (by omega)
        have hmda : a < md := by omega
        have hmde : md < e := by omega
        clear hmd h1 h2
        obtain ⟨pp, hpp⟩ : ∃ pp, pp = md + m - 1 := ⟨_, rfl⟩
        have hppz : ((md : Int) + (m : Int)) - 1 = (pp : Int) := by omega
        have HPP := Lib.hid hpp
        clear hpp
        have hm1000 : m ≤ 1000 := by omega
        by_cases hmm : md < m
        · have hmmz : (md : Int) < m := by omega
          obtain ⟨s0, hs0⟩ : ∃ s0, s0 = md + m - e := ⟨_, rfl⟩
          have hs0z : ((md : Int) + (m : Int)) - (e : Int) = (s0 : Int) := by have := HMD.out; omega
          have hsr : s0 ≤ md := by omega
          have HQ : Hid (∀ h, s0 ≤ h → h < md → h < pp - h ∧ pp - h < e) := Lib.hid (by intro h h1 h2; have := HMD.out; have := HPP.out; omega)
          have tA : decide ((md : Int) < (m : Int)) = true := by simp; omega
          have tB : decide ((m : Int) < (m : Int)) = false := by simp
          have tC : decide ((a : Int) < (md : Int)) = true := by simp; omega
          have tD : decide ((md : Int) < (md : Int)) = false := by simp
          have tE : decide ((m : Int) < (e : Int)) = true := by simp; omega
          have hez : ((md : Int) + (m : Int)) - (md : Int) = (m : Int) := by omega
          have HCL := Lib.hid (fun wx hb => HIH.out md m e wx (by omega) (by omega) (by omega) hen hb)
          clear hs0
          go_enter Try.func207, Try.ntmps207
          go_wp2_with fail
          go_loopw [20, 21] (fun iv jv wx => ∃ ii : Nat, s0 ≤ ii ∧ ii ≤ md ∧ iv = .int .i64 ii ∧ jv = .int .i64 md ∧ Hid (Below w.heap.size w wx)) (fun iv _ _ => md - (intOf iv).toNat)
          case atStart => exact ⟨s0, Nat.le_refl _, hsr, rfl, rfl, Lib.hid (Below.refl _ _)⟩
          case round =>
            obtain ⟨ii, hj1, hj2, rfl, rfl, HW⟩ := hrel
            by_cases hlt : ii < md
            · have hltz : (ii : Int) < md := by omega
              obtain ⟨h, hh⟩ : ∃ h, h = (ii + md) / 2 := ⟨_, rfl⟩
              have hh1 : ii ≤ h := by omega
              have hh2 : h < md := by omega
              have hcast : ((ii : Int) + (md : Int)) / 2 = (h : Int) := by omega
              obtain ⟨q, hq⟩ : ∃ q, q = pp - h := ⟨_, rfl⟩
              have hhq : h < q := by rw [hq]; exact (HQ.out h (by omega) hh2).1
              have hqe : q < e := by rw [hq]; exact (HQ.out h (by omega) hh2).2
              have HSUB : Hid (wrap64 ((pp : Int) - (h : Int)) = (q : Int)) := Lib.hid (by rw [hq, wrap_smallJ (by omega) (by omega)]; omega)
              have HSUB2 : Hid (IntKind.i64.wrap ((pp : Int) - (h : Int)) = (q : Int)) := Lib.hid (by rw [IntKind.wrap_i64]; omega)
              have hhn : h < n := by omega
              have hqn : q < n := by omega
              have hhz : (h : Int) < n := by omega
              have hhz0 : (0 : Int) ≤ h := by omega
              have hqz : (q : Int) < n := by omega
              have hqz0 : (0 : Int) ≤ q := by omega
              clear hh hq
              obtain ⟨x, hx⟩ : ∃ x, l[q]? = some x := ⟨_, List.getElem?_eq_getElem (by have := HO.out.len; omega)⟩
              have HxC : Hid (∀ wz, Below w.heap.size w wz → wz.cell? ⟨b, o + q * 4, none⟩ = some (.slice x.pA x.pn x.pc) ∧ wz.cell? ⟨b, o + q * 4 + 1, none⟩ = some (.int .i64 x.K) ∧ wz.cell? ⟨b, o + q * 4 + 2, none⟩ = some (.int .i64 x.F) ∧ wz.cell? ⟨b, o + q * 4 + 3, none⟩ = some (.int .i64 x.V)) := Lib.hid fun wz hz => ov_cells (HO.out.below (hz.mono HO.out.lo)) (by omega) hx
              obtain ⟨y, hy⟩ : ∃ y, l[h]? = some y := ⟨_, List.getElem?_eq_getElem (by have := HO.out.len; omega)⟩
              have HyC : Hid (∀ wz, Below w.heap.size w wz → wz.cell? ⟨b, o + h * 4, none⟩ = some (.slice y.pA y.pn y.pc) ∧ wz.cell? ⟨b, o + h * 4 + 1, none⟩ = some (.int .i64 y.K) ∧ wz.cell? ⟨b, o + h * 4 + 2, none⟩ = some (.int .i64 y.F) ∧ wz.cell? ⟨b, o + h * 4 + 3, none⟩ = some (.int .i64 y.V)) := Lib.hid fun wz hz => ov_cells (HO.out.below (hz.mono HO.out.lo)) (by omega) hy
              have hxm := List.mem_of_getElem? hx
              have hym := List.mem_of_getElem? hy
              have hcp := HSR.out h q y x (by omega) hy hx
              obtain ⟨cv, hcv⟩ : ∃ cv, cv = C x y := ⟨_, rfl⟩
              have HCALL : Hid (∀ wz, Below w.heap.size w wz → Calls Try.prog F #[.agg #[.slice x.pA x.pn x.pc, .int .i64 x.K, .int .i64 x.F, .int .i64 x.V], .agg #[.slice y.pA y.pn y.pc, .int .i64 y.K, .int .i64 y.F, .int .i64 y.V]] wz fun e w' => e = .returned (.int .i64 cv) ∧ Below wz.heap.size wz w') := Lib.hid fun wz hz => by rw [hcv]; exact HC.out wz x y hz hxm hym
              rw [← hcv] at hcp
              have hcp2 : ¬ (cv < 0) := by omega
              clear hx hy hxm hym hcv
              generalize x.pA = xA at *
              generalize x.pn = xn at *
              generalize x.pc = xc at *
              generalize x.K = xK at *
              generalize x.F = xF at *
              generalize x.V = xV at *
              generalize y.pA = yA at *
              generalize y.pn = yn at *
              generalize y.pc = yc at *
              generalize y.K = yK at *
              generalize y.F = yF at *
              generalize y.V = yV at *
              go_upto_region 35 with fail
              go_cut [171] from 158 to 170 (fun s171 wx => s171 = .bool true ∧ Hid (Below w.heap.size w wx))
              case first =>
                have s5 : Below w.heap.size w wr.drew := HW.out.drew
                refine wp_region_H (S := fun wz => Below w.heap.size w wz) (by kernel_rfl) ?_
                refine wpAnyH_val (i := 0) (v := .func (.func F) #[] #[]) (d := some 158) rfl rfl (by kernel_rfl) (by kernel_rfl) (by kernel_rfl) (fun _ _ _ h => h) (Or.inl ⟨by rfl, fun w hS => by (obtain ⟨x0, x1, x2, x3⟩ := HxC.out w hS; obtain ⟨y0, y1, y2, y3⟩ := HyC.out w hS; go_simp)⟩) s5 ?_
                (try simp only [Act.put, List.setIfInBounds_toArray, List.set_cons_zero, List.set_cons_succ])
                refine wpAnyH_val (i := 1) (v := .slice (some ⟨b, o, none⟩) n c) (d := some 159) rfl rfl (by kernel_rfl) (by kernel_rfl) (by kernel_rfl) (fun _ _ _ h => h) (Or.inl ⟨by rfl, fun w hS => by (obtain ⟨x0, x1, x2, x3⟩ := HxC.out w hS; obtain ⟨y0, y1, y2, y3⟩ := HyC.out w hS; go_simp)⟩) s5 ?_
                (try simp only [Act.put, List.setIfInBounds_toArray, List.set_cons_zero, List.set_cons_succ])
                refine wpAnyH_val (i := 2) (v := .int .i64 (pp : Int)) (d := some 160) rfl rfl (by kernel_rfl) (by kernel_rfl) (by kernel_rfl) (fun _ _ _ h => h) (Or.inl ⟨by rfl, fun w hS => by (obtain ⟨x0, x1, x2, x3⟩ := HxC.out w hS; obtain ⟨y0, y1, y2, y3⟩ := HyC.out w hS; go_simp)⟩) s5 ?_
                (try simp only [Act.put, List.setIfInBounds_toArray, List.set_cons_zero, List.set_cons_succ])
                refine wpAnyH_val (i := 3) (v := .int .i64 (h : Int)) (d := some 161) rfl rfl (by kernel_rfl) (by kernel_rfl) (by kernel_rfl) (fun _ _ _ h => h) (Or.inl ⟨by rfl, fun w hS => by (obtain ⟨x0, x1, x2, x3⟩ := HxC.out w hS; obtain ⟨y0, y1, y2, y3⟩ := HyC.out w hS; go_simp)⟩) s5 ?_
                (try simp only [Act.put, List.setIfInBounds_toArray, List.set_cons_zero, List.set_cons_succ])
                refine wpAnyH_val (i := 4) (v := .int .i64 (q : Int)) (d := some 162) rfl rfl (by kernel_rfl) (by kernel_rfl) (by kernel_rfl) (fun _ _ _ h => h) (Or.inl ⟨by rfl, fun w hS => by (obtain ⟨x0, x1, x2, x3⟩ := HxC.out w hS; obtain ⟨y0, y1, y2, y3⟩ := HyC.out w hS; have hsub := HSUB.out; have hsub2 := HSUB2.out; go_simp)⟩) s5 ?_
                (try simp only [Act.put, List.setIfInBounds_toArray, List.set_cons_zero, List.set_cons_succ])
                refine wpAnyH_val (i := 5) (v := .pointer (some ⟨b, o + q * 4, none⟩)) (d := some 163) rfl rfl (by kernel_rfl) (by kernel_rfl) (by kernel_rfl) (fun _ _ _ h => h) (Or.inl ⟨by rfl, fun w hS => by (obtain ⟨x0, x1, x2, x3⟩ := HxC.out w hS; obtain ⟨y0, y1, y2, y3⟩ := HyC.out w hS; go_simp)⟩) s5 ?_
                (try simp only [Act.put, List.setIfInBounds_toArray, List.set_cons_zero, List.set_cons_succ])
                refine wpAnyH_val (i := 6) (v := .agg #[.slice xA xn xc, .int .i64 xK, .int .i64 xF, .int .i64 xV]) (d := some 164) rfl rfl (by kernel_rfl) (by kernel_rfl) (by kernel_rfl) (fun _ _ _ h => h) (Or.inl ⟨by rfl, fun w hS => by (obtain ⟨x0, x1, x2, x3⟩ := HxC.out w hS; obtain ⟨y0, y1, y2, y3⟩ := HyC.out w hS; go_simp)⟩) s5 ?_
                (try simp only [Act.put, List.setIfInBounds_toArray, List.set_cons_zero, List.set_cons_succ])
                refine wpAnyH_val (i := 7) (v := .slice (some ⟨b, o, none⟩) n c) (d := some 165) rfl rfl (by kernel_rfl) (by kernel_rfl) (by kernel_rfl) (fun _ _ _ h => h) (Or.inl ⟨by rfl, fun w hS => by (obtain ⟨x0, x1, x2, x3⟩ := HxC.out w hS; obtain ⟨y0, y1, y2, y3⟩ := HyC.out w hS; go_simp)⟩) s5 ?_
                (try simp only [Act.put, List.setIfInBounds_toArray, List.set_cons_zero, List.set_cons_succ])
                refine wpAnyH_val (i := 8) (v := .int .i64 (h : Int)) (d := some 166) rfl rfl (by kernel_rfl) (by kernel_rfl) (by kernel_rfl) (fun _ _ _ h => h) (Or.inl ⟨by rfl, fun w hS => by (obtain ⟨x0, x1, x2, x3⟩ := HxC.out w hS; obtain ⟨y0, y1, y2, y3⟩ := HyC.out w hS; go_simp)⟩) s5 ?_
                (try simp only [Act.put, List.setIfInBounds_toArray, List.set_cons_zero, List.set_cons_succ])
                refine wpAnyH_val (i := 9) (v := .pointer (some ⟨b, o + h * 4, none⟩)) (d := some 167) rfl rfl (by kernel_rfl) (by kernel_rfl) (by kernel_rfl) (fun _ _ _ h => h) (Or.inl ⟨by rfl, fun w hS => by (obtain ⟨x0, x1, x2, x3⟩ := HxC.out w hS; obtain ⟨y0, y1, y2, y3⟩ := HyC.out w hS; go_simp)⟩) s5 ?_
                (try simp only [Act.put, List.setIfInBounds_toArray, List.set_cons_zero, List.set_cons_succ])
                refine wpAnyH_val (i := 10) (v := .agg #[.slice yA yn yc, .int .i64 yK, .int .i64 yF, .int .i64 yV]) (d := some 168) rfl rfl (by kernel_rfl) (by kernel_rfl) (by kernel_rfl) (fun _ _ _ h => h) (Or.inl ⟨by rfl, fun w hS => by (obtain ⟨x0, x1, x2, x3⟩ := HxC.out w hS; obtain ⟨y0, y1, y2, y3⟩ := HyC.out w hS; go_simp)⟩) s5 ?_
                (try simp only [Act.put, List.setIfInBounds_toArray, List.set_cons_zero, List.set_cons_succ])
                refine wpAnyH_oneW (i := 11) rfl (by kernel_rfl) (by rfl) ?_
                go_simp
                rw [HE.out, Oper.upon_enter]
                (with_reducible refine (HCALL.out _ s5).mono ?_)
                rintro e w6 ⟨rfl, hb6⟩
                have s6 : Below w.heap.size w w6 := s5.trans (hb6.mono s5.size)
                refine And.intro s6 ?_
                (try simp only [Act.put, List.setIfInBounds_toArray, List.set_cons_zero, List.set_cons_succ])
                refine wpAnyH_val (i := 12) (v := .bool false) (d := some 170) rfl rfl (by kernel_rfl) (by kernel_rfl) (by kernel_rfl) (fun _ _ _ h => h) (Or.inl ⟨by rfl, fun w hS => by (go_simp)⟩) s6 ?_
                (try simp only [Act.put, List.setIfInBounds_toArray, List.set_cons_zero, List.set_cons_succ])
                refine wpAnyH_val (i := 13) (v := .bool true) (d := some 171) rfl rfl (by kernel_rfl) (by kernel_rfl) (by kernel_rfl) (fun _ _ _ h => h) (Or.inl ⟨by rfl, fun w hS => by (go_simp)⟩) s6 ?_
                (try simp only [Act.put, List.setIfInBounds_toArray, List.set_cons_zero, List.set_cons_succ])
                refine wpAnyH_done (by kernel_rfl) ?_ _
                go_wp2_with fail
                go_meet
                case rel => exact ⟨rfl, Lib.hid s6⟩
              case rest =>
                obtain ⟨rfl, HW2⟩ := hcut
                clear HCALL HxC HyC HW HSUB HSUB2
                go_wp2_with fail
                go_roundw
                case measure => simp [intOf]; omega
                case rel => exact ⟨h + 1, by omega, by omega, by go_num, rfl, HW2⟩
            · have hltz : ¬ ((ii : Int) < md) := by omega
              have hie : ii = md := by omega
              subst hie
              go_wp2_with fail
              (with_reducible refine (HCL.out _ HW.out).mono ?_)
              rintro e2 w2 ⟨rfl, hb2⟩
              have HW2 : Hid (Below w.heap.size w w2) := Lib.hid (HW.out.trans (hb2.mono HW.out.size))
              clear hb2
              go_wp2_with fail
              refine bodyPost_end (results_none rfl _ _ _) rfl ?_
              exact ⟨rfl, HW2.out⟩
        · have hmmz : ¬ ((md : Int) < m) := by omega
          have hsr : a ≤ m := by omega
          have HQ : Hid (∀ h, a ≤ h → h < m → h < pp - h ∧ pp - h < e) := Lib.hid (by intro h h1 h2; have := HMD.out; have := HPP.out; omega)
          have tA : decide ((m : Int) < (m : Int)) = false := by simp
          have tB : decide ((a : Int) < (m : Int)) = true := by simp; omega
          have tC : decide ((md : Int) < (md : Int)) = false := by simp
          have hez : ((md : Int) + (m : Int)) - (m : Int) = (md : Int) := by omega
          go_enter Try.func207, Try.ntmps207
          go_wp2_with fail
          go_loopw [20, 21] (fun iv jv wx => ∃ ii : Nat, a ≤ ii ∧ ii ≤ m ∧ iv = .int .i64 ii ∧ jv = .int .i64 m ∧ Hid (Below w.heap.size w wx)) (fun iv _ _ => m - (intOf iv).toNat)
          case atStart => exact ⟨a, Nat.le_refl _, hsr, rfl, rfl, Lib.hid (Below.refl _ _)⟩
          case round =>
            obtain ⟨ii, hj1, hj2, rfl, rfl, HW⟩ := hrel
            by_cases hlt : ii < m
            · have hltz : (ii : Int) < m := by omega
              obtain ⟨h, hh⟩ : ∃ h, h = (ii + m) / 2 := ⟨_, rfl⟩
              have hh1 : ii ≤ h := by omega
              have hh2 : h < m := by omega
              have hcast : ((ii : Int) + (m : Int)) / 2 = (h : Int) := by omega
              obtain ⟨q, hq⟩ : ∃ q, q = pp - h := ⟨_, rfl⟩
              have hhq : h < q := by rw [hq]; exact (HQ.out h (by omega) hh2).1
              have hqe : q < e := by rw [hq]; exact (HQ.out h (by omega) hh2).2
              have HSUB : Hid (wrap64 ((pp : Int) - (h : Int)) = (q : Int)) := Lib.hid (by rw [hq, wrap_smallJ (by omega) (by omega)]; omega)
              have HSUB2 : Hid (IntKind.i64.wrap ((pp : Int) - (h : Int)) = (q : Int)) := Lib.hid (by rw [IntKind.wrap_i64]; omega)
              have hhn : h < n := by omega
              have hqn : q < n := by omega
              have hhz : (h : Int) < n := by omega
              have hhz0 : (0 : Int) ≤ h := by omega
              have hqz : (q : Int) < n := by omega
              have hqz0 : (0 : Int) ≤ q := by omega
              clear hh hq
              obtain ⟨x, hx⟩ : ∃ x, l[q]? = some x := ⟨_, List.getElem?_eq_getElem (by have := HO.out.len; omega)⟩
              have HxC : Hid (∀ wz, Below w.heap.size w wz → wz.cell? ⟨b, o + q * 4, none⟩ = some (.slice x.pA x.pn x.pc) ∧ wz.cell? ⟨b, o + q * 4 + 1, none⟩ = some (.int .i64 x.K) ∧ wz.cell? ⟨b, o + q * 4 + 2, none⟩ = some (.int .i64 x.F) ∧ wz.cell? ⟨b, o + q * 4 + 3, none⟩ = some (.int .i64 x.V)) := Lib.hid fun wz hz => ov_cells (HO.out.below (hz.mono HO.out.lo)) (by omega) hx
              obtain ⟨y, hy⟩ : ∃ y, l[h]? = some y := ⟨_, List.getElem?_eq_getElem (by have := HO.out.len; omega)⟩
              have HyC : Hid (∀ wz, Below w.heap.size w wz → wz.cell? ⟨b, o + h * 4, none⟩ = some (.slice y.pA y.pn y.pc) ∧ wz.cell? ⟨b, o + h * 4 + 1, none⟩ = some (.int .i64 y.K) ∧ wz.cell? ⟨b, o + h * 4 + 2, none⟩ = some (.int .i64 y.F) ∧ wz.cell? ⟨b, o + h * 4 + 3, none⟩ = some (.int .i64 y.V)) := Lib.hid fun wz hz => ov_cells (HO.out.below (hz.mono HO.out.lo)) (by omega) hy
              have hxm := List.mem_of_getElem? hx
              have hym := List.mem_of_getElem? hy
              have hcp := HSR.out h q y x (by omega) hy hx
              obtain ⟨cv, hcv⟩ : ∃ cv, cv = C x y := ⟨_, rfl⟩
              have HCALL : Hid (∀ wz, Below w.heap.size w wz → Calls Try.prog F #[.agg #[.slice x.pA x.pn x.pc, .int .i64 x.K, .int .i64 x.F, .int .i64 x.V], .agg #[.slice y.pA y.pn y.pc, .int .i64 y.K, .int .i64 y.F, .int .i64 y.V]] wz fun e w' => e = .returned (.int .i64 cv) ∧ Below wz.heap.size wz w') := Lib.hid fun wz hz => by rw [hcv]; exact HC.out wz x y hz hxm hym
              rw [← hcv] at hcp
              have hcp2 : ¬ (cv < 0) := by omega
              clear hx hy hxm hym hcv
              generalize x.pA = xA at *
              generalize x.pn = xn at *
              generalize x.pc = xc at *
              generalize x.K = xK at *
              generalize x.F = xF at *
              generalize x.V = xV at *
              generalize y.pA = yA at *
              generalize y.pn = yn at *
              generalize y.pc = yc at *
              generalize y.K = yK at *
              generalize y.F = yF at *
              generalize y.V = yV at *
              go_upto_region 35 with fail
              go_cut [171] from 158 to 170 (fun s171 wx => s171 = .bool true ∧ Hid (Below w.heap.size w wx))
              case first =>
                have s5 : Below w.heap.size w wr.drew := HW.out.drew
                refine wp_region_H (S := fun wz => Below w.heap.size w wz) (by kernel_rfl) ?_
                refine wpAnyH_val (i := 0) (v := .func (.func F) #[] #[]) (d := some 158) rfl rfl (by kernel_rfl) (by kernel_rfl) (by kernel_rfl) (fun _ _ _ h => h) (Or.inl ⟨by rfl, fun w hS => by (obtain ⟨x0, x1, x2, x3⟩ := HxC.out w hS; obtain ⟨y0, y1, y2, y3⟩ := HyC.out w hS; go_simp)⟩) s5 ?_
                (try simp only [Act.put, List.setIfInBounds_toArray, List.set_cons_zero, List.set_cons_succ])
                refine wpAnyH_val (i := 1) (v := .slice (some ⟨b, o, none⟩) n c) (d := some 159) rfl rfl (by kernel_rfl) (by kernel_rfl) (by kernel_rfl) (fun _ _ _ h => h) (Or.inl ⟨by rfl, fun w hS => by (obtain ⟨x0, x1, x2, x3⟩ := HxC.out w hS; obtain ⟨y0, y1, y2, y3⟩ := HyC.out w hS; go_simp)⟩) s5 ?_
                (try simp only [Act.put, List.setIfInBounds_toArray, List.set_cons_zero, List.set_cons_succ])
                refine wpAnyH_val (i := 2) (v := .int .i64 (pp : Int)) (d := some 160) rfl rfl (by kernel_rfl) (by kernel_rfl) (by kernel_rfl) (fun _ _ _ h => h) (Or.inl ⟨by rfl, fun w hS => by (obtain ⟨x0, x1, x2, x3⟩ := HxC.out w hS; obtain ⟨y0, y1, y2, y3⟩ := HyC.out w hS; go_simp)⟩) s5 ?_
                (try simp only [Act.put, List.setIfInBounds_toArray, List.set_cons_zero, List.set_cons_succ])
                refine wpAnyH_val (i := 3) (v := .int .i64 (h : Int)) (d := some 161) rfl rfl (by kernel_rfl) (by kernel_rfl) (by kernel_rfl) (fun _ _ _ h => h) (Or.inl ⟨by rfl, fun w hS => by (obtain ⟨x0, x1, x2, x3⟩ := HxC.out w hS; obtain ⟨y0, y1, y2, y3⟩ := HyC.out w hS; go_simp)⟩) s5 ?_
                (try simp only [Act.put, List.setIfInBounds_toArray, List.set_cons_zero, List.set_cons_succ])
                refine wpAnyH_val (i := 4) (v := .int .i64 (q : Int)) (d := some 162) rfl rfl (by kernel_rfl) (by kernel_rfl) (by kernel_rfl) (fun _ _ _ h => h) (Or.inl ⟨by rfl, fun w hS => by (obtain ⟨x0, x1, x2, x3⟩ := HxC.out w hS; obtain ⟨y0, y1, y2, y3⟩ := HyC.out w hS; have hsub := HSUB.out; have hsub2 := HSUB2.out; go_simp)⟩) s5 ?_
                (try simp only [Act.put, List.setIfInBounds_toArray, List.set_cons_zero, List.set_cons_succ])
                refine wpAnyH_val (i := 5) (v := .pointer (some ⟨b, o + q * 4, none⟩)) (d := some 163) rfl rfl (by kernel_rfl) (by kernel_rfl) (by kernel_rfl) (fun _ _ _ h => h) (Or.inl ⟨by rfl, fun w hS => by (obtain ⟨x0, x1, x2, x3⟩ := HxC.out w hS; obtain ⟨y0, y1, y2, y3⟩ := HyC.out w hS; go_simp)⟩) s5 ?_
                (try simp only [Act.put, List.setIfInBounds_toArray, List.set_cons_zero, List.set_cons_succ])
                refine wpAnyH_val (i := 6) (v := .agg #[.slice xA xn xc, .int .i64 xK, .int .i64 xF, .int .i64 xV]) (d := some 164) rfl rfl (by kernel_rfl) (by kernel_rfl) (by kernel_rfl) (fun _ _ _ h => h) (Or.inl ⟨by rfl, fun w hS => by (obtain ⟨x0, x1, x2, x3⟩ := HxC.out w hS; obtain ⟨y0, y1, y2, y3⟩ := HyC.out w hS; go_simp)⟩) s5 ?_
                (try simp only [Act.put, List.setIfInBounds_toArray, List.set_cons_zero, List.set_cons_succ])
                refine wpAnyH_val (i := 7) (v := .slice (some ⟨b, o, none⟩) n c) (d := some 165) rfl rfl (by kernel_rfl) (by kernel_rfl) (by kernel_rfl) (fun _ _ _ h => h) (Or.inl ⟨by rfl, fun w hS => by (obtain ⟨x0, x1, x2, x3⟩ := HxC.out w hS; obtain ⟨y0, y1, y2, y3⟩ := HyC.out w hS; go_simp)⟩) s5 ?_
                (try simp only [Act.put, List.setIfInBounds_toArray, List.set_cons_zero, List.set_cons_succ])
                refine wpAnyH_val (i := 8) (v := .int .i64 (h : Int)) (d := some 166) rfl rfl (by kernel_rfl) (by kernel_rfl) (by kernel_rfl) (fun _ _ _ h => h) (Or.inl ⟨by rfl, fun w hS => by (obtain ⟨x0, x1, x2, x3⟩ := HxC.out w hS; obtain ⟨y0, y1, y2, y3⟩ := HyC.out w hS; go_simp)⟩) s5 ?_
                (try simp only [Act.put, List.setIfInBounds_toArray, List.set_cons_zero, List.set_cons_succ])
                refine wpAnyH_val (i := 9) (v := .pointer (some ⟨b, o + h * 4, none⟩)) (d := some 167) rfl rfl (by kernel_rfl) (by kernel_rfl) (by kernel_rfl) (fun _ _ _ h => h) (Or.inl ⟨by rfl, fun w hS => by (obtain ⟨x0, x1, x2, x3⟩ := HxC.out w hS; obtain ⟨y0, y1, y2, y3⟩ := HyC.out w hS; go_simp)⟩) s5 ?_
                (try simp only [Act.put, List.setIfInBounds_toArray, List.set_cons_zero, List.set_cons_succ])
                refine wpAnyH_val (i := 10) (v := .agg #[.slice yA yn yc, .int .i64 yK, .int .i64 yF, .int .i64 yV]) (d := some 168) rfl rfl (by kernel_rfl) (by kernel_rfl) (by kernel_rfl) (fun _ _ _ h => h) (Or.inl ⟨by rfl, fun w hS => by (obtain ⟨x0, x1, x2, x3⟩ := HxC.out w hS; obtain ⟨y0, y1, y2, y3⟩ := HyC.out w hS; go_simp)⟩) s5 ?_
                (try simp only [Act.put, List.setIfInBounds_toArray, List.set_cons_zero, List.set_cons_succ])
                refine wpAnyH_oneW (i := 11) rfl (by kernel_rfl) (by rfl) ?_
                go_simp
                rw [HE.out, Oper.upon_enter]
                (with_reducible refine (HCALL.out _ s5).mono ?_)
                rintro e w6 ⟨rfl, hb6⟩
                have s6 : Below w.heap.size w w6 := s5.trans (hb6.mono s5.size)
                refine And.intro s6 ?_
                (try simp only [Act.put, List.setIfInBounds_toArray, List.set_cons_zero, List.set_cons_succ])
                refine wpAnyH_val (i := 12) (v := .bool false) (d := some 170) rfl rfl (by kernel_rfl) (by kernel_rfl) (by kernel_rfl) (fun _ _ _ h => h) (Or.inl ⟨by rfl, fun w hS => by (go_simp)⟩) s6 ?_
                (try simp only [Act.put, List.setIfInBounds_toArray, List.set_cons_zero, List.set_cons_succ])
                refine wpAnyH_val (i := 13) (v := .bool true) (d := some 171) rfl rfl (by kernel_rfl) (by kernel_rfl) (by kernel_rfl) (fun _ _ _ h => h) (Or.inl ⟨by rfl, fun w hS => by (go_simp)⟩) s6 ?_
                (try simp only [Act.put, List.setIfInBounds_toArray, List.set_cons_zero, List.set_cons_succ])
                refine wpAnyH_done (by kernel_rfl) ?_ _
                go_wp2_with fail
                go_meet
                case rel => exact ⟨rfl, Lib.hid s6⟩
              case rest =>
                obtain ⟨rfl, HW2⟩ := hcut
                clear HCALL HxC HyC HW HSUB HSUB2
                go_wp2_with fail
                go_roundw
                case measure => simp [intOf]; omega
                case rel => exact ⟨h + 1, by omega, by omega, by go_num, rfl, HW2⟩
            · have hltz : ¬ ((ii : Int) < m) := by omega
              have hie : ii = m := by omega
              subst hie
              by_cases hm2 : ii < md
              · have tF : decide ((ii : Int) < (md : Int)) = true := by simp; omega
                have HCL := Lib.hid (fun wx hb => HIH.out a ii md wx (by omega) ham hm2 (by omega) hb)
                go_wp2_with fail
                (with_reducible refine (HCL.out _ HW.out).mono ?_)
                rintro e2 w2 ⟨rfl, hb2⟩
                have HW2 : Hid (Below w.heap.size w w2) := Lib.hid (HW.out.trans (hb2.mono HW.out.size))
                clear hb2
                go_wp2_with fail
                refine bodyPost_end (results_none rfl _ _ _) rfl ?_
                exact ⟨rfl, HW2.out⟩
              · have tF : decide ((ii : Int) < (md : Int)) = false := by simp; omega
                go_wp2_with fail
                refine bodyPost_end (results_none rfl _ _ _) rfl ?_
                exact ⟨rfl, HW.out⟩

/-! ### Ql -/
set_option maxHeartbeats 4000000 in
theorem stable_any {w : World} {B n c F : Nat} {A : Option Addr} {l : List Ov} {C : Ov → Ov → Int} (hE : ∀ (ar : Array Value) (wx : World), (callFunc F ar).run Try.prog wx = .ok (.enter F ar) wx) (ho : OvsOk w B A n c l) (hC : CmpOk w l F C) (hS : SrtF l C) (hn : n ≤ 1000) :
    Calls Try.prog 158 #[.slice A n c, .int .i64 n, .func (.func F) #[] #[]] w fun e w' => e = .returned (.tuple #[]) ∧ Below w.heap.size w w' := by
  have HI := Lib.hid (fun (wx : World) (hb : Below w.heap.size w wx) (a e : Nat) (h1 : a ≤ e) (h2 : e ≤ n) => insSort_any hE (ho.below (hb.mono ho.lo)) (hC.below hb) hS h1 h2 hn)
  have HM := Lib.hid (fun (wx : World) (hb : Below w.heap.size w wx) (a m e : Nat) (h1 : a < m) (h2 : m < e) (h3 : e ≤ n) => symMerge_any hE ho hC hS hn (e - a) a m e wx (Nat.le_refl _) h1 h2 h3 hb)
  have hcap := ho.cap
  have hcap2 := ho.cap2
  clear hE ho hC hS
  go_enter Try.func158, Try.ntmps158
  go_wp2_with fail
  go_loopw [7, 8] (fun av bv wx => ∃ a bb : Nat, a ≤ n ∧ bb ≤ 3000 ∧ av = .int .i64 a ∧ bv = .int .i64 bb ∧ Hid (bb = a + 20) ∧ Hid (Below w.heap.size w wx)) (fun av _ _ => n - (intOf av).toNat)
  case atStart => exact ⟨0, 20, Nat.zero_le _, by omega, rfl, rfl, Lib.hid rfl, Lib.hid (Below.refl _ _)⟩
  case round =>
    obtain ⟨a, bb, ha, hb3, rfl, rfl, HBB, HW⟩ := hrel
    by_cases hlt : bb ≤ n
    · have hltz : (bb : Int) ≤ n := by omega
      go_wp2_with fail
      (with_reducible refine (HI.out _ HW.out a bb (by have := HBB.out; omega) hlt).mono ?_)
      rintro e w2 ⟨rfl, hb2⟩
      have HW2 : Hid (Below w.heap.size w w2) := Lib.hid (HW.out.trans (hb2.mono HW.out.size))
      clear hb2 HW
      go_wp2_with fail
      go_roundw
      case measure => have := HBB.out; simp [intOf]; omega
      case rel => exact ⟨bb, bb + 20, hlt, by omega, by go_num, by go_num, Lib.hid rfl, HW2⟩
    · have hltz : ¬ ((bb : Int) ≤ n) := by omega
      go_wp2_with fail
      (with_reducible refine (HI.out _ HW.out a n ha (Nat.le_refl _)).mono ?_)
      rintro e w2 ⟨rfl, hb2⟩
      have HW2 : Hid (Below w.heap.size w w2) := Lib.hid (HW.out.trans (hb2.mono HW.out.size))
      clear hb2 HW
      go_wp2_with fail
      go_loopw [6] (fun sv wx => ∃ s : Nat, 20 ≤ s ∧ s ≤ 2000 ∧ sv = .int .i64 s ∧ Hid (Below w.heap.size w wx)) (fun sv _ => n - (intOf sv).toNat)
      case atStart => exact ⟨20, Nat.le_refl _, by omega, rfl, HW2⟩
      case round =>
        clear HW2
        obtain ⟨s, hs1, hs2, rfl, HW⟩ := hrel
        by_cases hsn : s < n
        · have hsz : (s : Int) < n := by omega
          go_wp2_with fail
          go_loopw [7, 8] (fun av bv wx => ∃ a bb : Nat, a ≤ n ∧ bb ≤ 9000 ∧ av = .int .i64 a ∧ bv = .int .i64 bb ∧ Hid (bb = a + 2 * s) ∧ Hid (Below w.heap.size w wx)) (fun av _ _ => n - (intOf av).toNat)
          case atStart => exact ⟨0, 2 * s, Nat.zero_le _, by omega, rfl, by go_num, Lib.hid (by omega), HW⟩
          case round =>
            clear HW
            obtain ⟨a, bb, ha, hb9, rfl, rfl, HBB, HW⟩ := hrel
            obtain ⟨mm, hmm⟩ : ∃ mm, mm = a + s := ⟨_, rfl⟩
            have hcas : (a : Int) + (s : Int) = (mm : Int) := by omega
            have hmm3 : mm ≤ 3000 := by omega
            have HMM := Lib.hid hmm
            clear hmm
            by_cases hlt : bb ≤ n
            · have hltz : (bb : Int) ≤ n := by omega
              have HCL := Lib.hid (HM.out _ HW.out a mm bb (by have := HMM.out; omega) (by have := HMM.out; have := HBB.out; omega) hlt)
              go_wp2_with fail
              (with_reducible refine HCL.out.mono ?_)
              clear HCL
              rintro e w2 ⟨rfl, hb2⟩
              have HW2 : Hid (Below w.heap.size w w2) := Lib.hid (HW.out.trans (hb2.mono HW.out.size))
              clear hb2 HW hcas
              go_wp2_with fail
              go_roundw
              case measure => have := HBB.out; simp [intOf]; omega
              case rel => exact ⟨bb, bb + 2 * s, hlt, by omega, by go_num, by go_num, Lib.hid rfl, HW2⟩
            · have hltz : ¬ ((bb : Int) ≤ n) := by omega
              by_cases hm : mm < n
              · have hmz : (mm : Int) < n := by omega
                have HCL := Lib.hid (HM.out _ HW.out a mm n (by have := HMM.out; omega) hm (Nat.le_refl _))
                go_wp2_with fail
                (with_reducible refine HCL.out.mono ?_)
                clear HCL
                rintro e w2 ⟨rfl, hb2⟩
                have HW2 : Hid (Below w.heap.size w w2) := Lib.hid (HW.out.trans (hb2.mono HW.out.size))
                clear hb2 HW hcas
                go_wp2_with fail
                go_roundw
                case measure => simp [intOf]; omega
                case rel => exact ⟨2 * s, by omega, by omega, by go_num, HW2⟩
              · have hmz : ¬ ((mm : Int) < n) := by omega
                go_wp2_with fail
                go_roundw
                case measure => simp [intOf]; omega
                case rel => exact ⟨2 * s, by omega, by omega, by go_num, HW⟩
        · have hsz : ¬ ((s : Int) < n) := by omega
          go_wp2_with fail
          refine bodyPost_end (results_none rfl _ _ _) rfl ?_
          exact ⟨rfl, HW.out⟩

set_option maxHeartbeats 800000 in
theorem sortStable_any {w : World} {B n c F : Nat} {A : Option Addr} {l : List Ov} {C : Ov → Ov → Int} (hE : ∀ (ar : Array Value) (wx : World), (callFunc F ar).run Try.prog wx = .ok (.enter F ar) wx) (ho : OvsOk w B A n c l) (hC : CmpOk w l F C) (hS : SrtF l C) (hn : n ≤ 1000) :
    Calls Try.prog 76 #[.slice A n c, .func (.func F) #[] #[]] w fun e w' => e = .returned (.tuple #[]) ∧ Below w.heap.size w w' := by
  have HS := Lib.hid (stable_any hE ho hC hS hn)
  have hcap := ho.cap
  have hcap2 := ho.cap2
  clear hE ho hC hS
  go_enter Try.func76, Try.ntmps76
  go_wp2_with fail
  (with_reducible refine HS.out.mono ?_)
  rintro e w2 ⟨rfl, hb2⟩
  have HB2 := Lib.hid hb2
  clear hb2
  go_wp2_with fail
  refine bodyPost_end (results_none rfl _ _ _) rfl ?_
  exact ⟨rfl, HB2.out⟩

/-! ### Qm -/
def cmpI (a b : Int) : Int := if a < b then -1 else if b < a then 1 else 0
def lexC : List Int → List Int → Int
  | [], [] => 0
  | [], _ :: _ => -1
  | _ :: _, [] => 1
  | a :: l, b :: r => if cmpI a b ≠ 0 then cmpI a b else lexC l r
def or3 (a b c : Int) : Int := if a ≠ 0 then a else if b ≠ 0 then b else c
/-- The order of replacements: by path, kind and field. -/
def cmpO (x y : Ov) : Int := or3 (lexC x.path y.path) (cmpI x.K y.K) (cmpI x.F y.F)

set_option maxHeartbeats 800000 in
theorem isNaN_any (a : Int) (w : World) : Calls Try.prog 203 #[.int .i64 a] w fun e w' => e = .returned (.bool false) ∧ w = w' := by
  have t0 : (a != a) = false := by simp
  go_enter Try.func203, Try.ntmps203
  go_wp2_with fail
  go_ret
  exact ⟨rfl, rfl⟩
set_option maxHeartbeats 800000 in
theorem cmpI_any (a b : Int) (w : World) : Calls Try.prog 146 #[.int .i64 a, .int .i64 b] w fun e w' => e = .returned (.int .i64 (cmpI a b)) ∧ w = w' := by
  have HN := Lib.hid isNaN_any
  obtain ⟨cv, hcv⟩ : ∃ cv, cv = cmpI a b := ⟨_, rfl⟩
  rw [← hcv]
  have HCV := Lib.hid hcv
  clear hcv
  go_enter Try.func146, Try.ntmps146
  go_wp2_with fail
  (with_reducible refine (HN.out a w).mono ?_)
  rintro e w1 ⟨rfl, rfl⟩
  go_wp2_with fail
  (with_reducible refine (HN.out b w).mono ?_)
  rintro e w1 ⟨rfl, rfl⟩
  by_cases h1 : a < b
  · have hc : cv = -1 := by rw [HCV.out, cmpI, if_pos h1]
    subst hc
    go_wp2_with fail
    go_ret
    exact ⟨rfl, rfl⟩
  · by_cases h2 : b < a
    · have hc : cv = 1 := by rw [HCV.out, cmpI, if_neg h1, if_pos h2]
      subst hc
      go_wp2_with fail
      go_ret
      exact ⟨rfl, rfl⟩
    · have hc : cv = 0 := by rw [HCV.out, cmpI, if_neg h1, if_neg h2]
      subst hc
      go_wp2_with fail
      go_ret
      exact ⟨rfl, rfl⟩
theorem lexC_drop {l r : List Int} {k : Nat} {a : Int} (ha : l[k]? = some a) : lexC (l.drop k) (r.drop k) = match r[k]? with | none => 1 | some b => if cmpI a b ≠ 0 then cmpI a b else lexC (l.drop (k + 1)) (r.drop (k + 1)) := by
  obtain ⟨h1, e1⟩ := List.getElem?_eq_some_iff.1 ha
  rw [List.drop_eq_getElem_cons h1, e1]
  cases hb : r[k]? with
  | none =>
    have hr : r.drop k = [] := List.drop_of_length_le (by
      rcases Nat.lt_or_ge k r.length with h | h
      · rw [List.getElem?_eq_getElem h] at hb; cases hb
      · exact h)
    rw [hr]; rfl
  | some b =>
    obtain ⟨h2, e2⟩ := List.getElem?_eq_some_iff.1 hb
    rw [List.drop_eq_getElem_cons h2, e2]
    rfl

set_option maxHeartbeats 1600000 in
theorem compare_any {w : World} {B n c n' c' : Nat} {A A' : Option Addr} {l l' : List Int} (hr : Rd w B 1 A n (l.map (Value.int .i64))) (hr' : Rd w B 1 A' n' (l'.map (Value.int .i64))) (hn : n = l.length) (hn' : n' = l'.length) (hm : n ≤ 9223372036854775807) (_hm' : n' ≤ 9223372036854775807) :
    Calls Try.prog 78 #[.slice A n c, .slice A' n' c'] w fun e w' => e = .returned (.int .i64 (lexC l l')) ∧ ∃ m, w.drewN m = w' := by
  obtain ⟨R, hR⟩ : ∃ R, R = lexC l l' := ⟨_, rfl⟩
  rw [← hR]
  have HR : Hid (R = lexC (l.drop 0) (l'.drop 0)) := Lib.hid hR
  have HCI := Lib.hid cmpI_any
  have HL := Lib.hid (And.intro hn hn')
  have HA := Lib.hid hr
  have HA' := Lib.hid hr'
  clear hR hr hr' hn hn'
  go_enter Try.func78, Try.ntmps78
  go_wp2_with fail
  go_loopw [11] (fun iv wx => ∃ k : Nat, k ≤ n ∧ k ≤ n' ∧ iv = .int .i64 k ∧ Hid (R = lexC (l.drop k) (l'.drop k)) ∧ ∃ m, w.drewN m = wx) (fun iv _ => n - (intOf iv).toNat)
  case atStart => exact ⟨0, Nat.zero_le _, Nat.zero_le _, rfl, HR, 0, rfl⟩
  case round =>
    clear HR
    obtain ⟨k, hk, hk', rfl, HR, m, rfl⟩ := hrel
    by_cases hlt : k < n
    · obtain ⟨a, ha⟩ : ∃ a, l[k]? = some a := ⟨_, List.getElem?_eq_getElem (by have := HL.out.1; omega)⟩
      have hga : (l.map (Value.int .i64))[k]? = some (.int .i64 a) := by rw [List.getElem?_map, ha]; rfl
      obtain ⟨b, o, rfl, _, q0⟩ := HA.out.at1 hlt hga
      have hkz : (k : Int) < n := by omega
      have hkz0 : (0 : Int) ≤ k := by omega
      have hrk := HR.out
      rw [lexC_drop ha] at hrk
      clear ha hga
      by_cases hlt' : k < n'
      · obtain ⟨d, hd⟩ : ∃ d, l'[k]? = some d := ⟨_, List.getElem?_eq_getElem (by have := HL.out.2; omega)⟩
        have hgd : (l'.map (Value.int .i64))[k]? = some (.int .i64 d) := by rw [List.getElem?_map, hd]; rfl
        obtain ⟨b', o', rfl, _, r0⟩ := HA'.out.at1 hlt' hgd
        rw [hd] at hrk
        have hkz' : (k : Int) < n' := by omega
        have hkz2 : ¬ ((n' : Int) ≤ k) := by omega
        have HRK := Lib.hid hrk
        clear hd hgd hrk
        obtain ⟨cv, hcv⟩ : ∃ cv, cv = cmpI a d := ⟨_, rfl⟩
        have HC9 : Hid (∀ wx, Calls Try.prog 146 #[.int .i64 a, .int .i64 d] wx fun e w' => e = .returned (.int .i64 cv) ∧ wx = w') := Lib.hid fun wx => by rw [hcv]; exact HCI.out a d wx
        have HCV := Lib.hid hcv
        clear hcv
        go_wp2_with fail
        (with_reducible refine (HC9.out _).mono ?_)
        rintro e w1 ⟨rfl, rfl⟩
        clear HC9
        by_cases hc0 : cv = 0
        · subst hc0
          have HRN : Hid (R = lexC (List.drop (k + 1) l) (List.drop (k + 1) l')) := Lib.hid (by have h := HRK.out; rw [← HCV.out, if_neg (by simp)] at h; exact h)
          go_wp2_with fail
          go_roundw
          case measure => simp [intOf]; omega
          case rel => exact ⟨k + 1, by omega, by omega, by go_num, HRN, m, rfl⟩
        · have hRc : R = cv := by have h := HRK.out; rw [← HCV.out, if_pos hc0] at h; exact h
          have t0 : (cv != 0) = true := by simp [hc0]
          subst hRc
          go_wp2_with fail
          go_ret
          exact ⟨rfl, m, rfl⟩
      · have hkz2 : (n' : Int) ≤ k := by omega
        have hR1 : R = 1 := by rw [hrk, List.getElem?_eq_none (by have := HL.out.2; omega)]
        subst hR1
        clear hrk
        go_wp2_with fail
        go_ret
        exact ⟨rfl, m, rfl⟩
    · obtain rfl : k = n := by omega
      have h1 : l.drop k = [] := List.drop_of_length_le (by have := HL.out.1; omega)
      by_cases hlt' : k < n'
      · have hz : (k : Int) < n' := by omega
        have hR1 : R = -1 := by rw [HR.out, h1, List.drop_eq_getElem_cons (by have := HL.out.2; omega)]; rfl
        subst hR1
        clear h1
        go_wp2_with fail
        go_ret
        exact ⟨rfl, m, rfl⟩
      · have hz : ¬ ((k : Int) < n') := by omega
        have hR1 : R = 0 := by rw [HR.out, h1, List.drop_of_length_le (by have := HL.out.2; omega)]; rfl
        subst hR1
        clear h1
        go_wp2_with fail
        go_ret
        exact ⟨rfl, m, rfl⟩

set_option maxHeartbeats 1600000 in
theorem or3_any (w : World) (a b c : Int) : Calls Try.prog 145 #[.slice (some ⟨w.heap.size, 0, none⟩) 3 3] (w.alloc (.cells #[.int .i64 a, .int .i64 b, .int .i64 c] 3)) fun e w' => e = .returned (.int .i64 (or3 a b c)) ∧ ∃ m, (w.alloc (.cells #[.int .i64 a, .int .i64 b, .int .i64 c] 3)).drewN m = w' := by
  have hk := Bk.new w 3 #[.int .i64 a, .int .i64 b, .int .i64 c]
  obtain ⟨g, hg⟩ : ∃ g, g = w.heap.size := ⟨_, rfl⟩
  obtain ⟨W, hW⟩ : ∃ W, W = w.alloc (.cells #[.int .i64 a, .int .i64 b, .int .i64 c] 3) := ⟨_, rfl⟩
  rw [← hg, ← hW] at hk ⊢
  clear hg hW
  obtain ⟨R, hR⟩ : ∃ R, R = or3 a b c := ⟨_, rfl⟩
  rw [← hR]
  have HK := Lib.hid hk
  have HR := Lib.hid hR
  clear hk hR
  have hrd : ∀ (k : Nat) (x : Int), (#[a, b, c] : Array Int)[k]? = some x → ∀ m, (W.drewN m).cell? ⟨g, k, none⟩ = some (.int .i64 x) := fun k x hx m => by
    have h := (HK.out.drewN m).cell k
    rw [h]
    match k, hx with
    | 0, hx => simpa using hx
    | 1, hx => simpa using hx
    | 2, hx => simpa using hx
  have HRD := Lib.hid hrd
  clear hrd
  go_enter Try.func145, Try.ntmps145
  go_wp2_with fail
  go_loopw [8] (fun iv wx => ∃ k : Nat, k ≤ 3 ∧ iv = .int .i64 k ∧ Hid ((1 ≤ k → a = 0) ∧ (2 ≤ k → b = 0) ∧ (3 ≤ k → c = 0)) ∧ ∃ m, W.drewN m = wx) (fun iv _ => 3 - (intOf iv).toNat)
  case atStart => exact ⟨0, by omega, rfl, Lib.hid ⟨(fun h => by omega), (fun h => by omega), (fun h => by omega)⟩, 0, rfl⟩
  case round =>
    obtain ⟨k, hk, rfl, HZ, m, rfl⟩ := hrel
    by_cases hlt : k < 3
    · obtain ⟨x, hx⟩ : ∃ x, (#[a, b, c] : Array Int)[k]? = some x := ⟨_, Array.getElem?_eq_getElem (by simpa using hlt)⟩
      have q0 := HRD.out k x hx m
      have HX := Lib.hid hx
      have hkz : (k : Int) < 3 := by omega
      have hkz0 : (0 : Int) ≤ k := by omega
      clear hx
      by_cases hx0 : x = 0
      · subst hx0
        have HZN : Hid ((1 ≤ k + 1 → a = 0) ∧ (2 ≤ k + 1 → b = 0) ∧ (3 ≤ k + 1 → c = 0)) := Lib.hid (by
          have h1 := HX.out
          have h2 := HZ.out
          match k, hlt with
          | 0, _ => exact ⟨(fun _ => by simpa using h1), (fun h => by omega), (fun h => by omega)⟩
          | 1, _ => exact ⟨(fun _ => h2.1 (by omega)), (fun _ => by simpa using h1), (fun h => by omega)⟩
          | 2, _ => exact ⟨(fun _ => h2.1 (by omega)), (fun _ => h2.2.1 (by omega)), (fun _ => by simpa using h1)⟩)
        go_wp2_with fail
        go_roundw
        case measure => simp [intOf]; omega
        case rel => exact ⟨k + 1, by omega, by go_num, HZN, m, rfl⟩
      · have t0 : (x != 0) = true := by simp [hx0]
        have hRx : R = x := by
          have h1 := HX.out
          have h2 := HZ.out
          rw [HR.out]
          match k, hlt with
          | 0, _ => (have e : a = x := by simpa using h1); rw [or3, e, if_pos hx0]
          | 1, _ => (have e : b = x := by simpa using h1); rw [or3, h2.1 (by omega), if_neg (by simp), e, if_pos hx0]
          | 2, _ => (have e : c = x := by simpa using h1); rw [or3, h2.1 (by omega), h2.2.1 (by omega), if_neg (by simp), if_neg (by simp), e]
        subst hRx
        go_wp2_with fail
        go_ret
        exact ⟨rfl, m, rfl⟩
    · obtain rfl : k = 3 := by omega
      have hR0 : R = 0 := by rw [HR.out, or3, HZ.out.1 (by omega), HZ.out.2.1 (by omega), HZ.out.2.2 (by omega)]; simp
      subst hR0
      go_wp2_with fail
      go_ret
      exact ⟨rfl, m, rfl⟩

set_option maxHeartbeats 4000000 in
theorem clo144_any {wx : World} {B : Nat} (x y : Ov) (hx : OvOk wx B x) (hy : OvOk wx B y) (hB : B ≤ wx.heap.size) :
    Calls Try.prog 144 #[.agg #[.slice x.pA x.pn x.pc, .int .i64 x.K, .int .i64 x.F, .int .i64 x.V], .agg #[.slice y.pA y.pn y.pc, .int .i64 y.K, .int .i64 y.F, .int .i64 y.V]] wx fun e w' => e = .returned (.int .i64 (cmpO x y)) ∧ Below wx.heap.size wx w' := by
  obtain ⟨xA, xn, xc, xp, xK, xF, xV⟩ := x
  obtain ⟨yA, yn, yc, yp, yK, yF, yV⟩ := y
  show Calls Try.prog 144 #[.agg #[.slice xA xn xc, .int .i64 xK, .int .i64 xF, .int .i64 xV], .agg #[.slice yA yn yc, .int .i64 yK, .int .i64 yF, .int .i64 yV]] wx fun e w' => e = .returned (.int .i64 (or3 (lexC xp yp) (cmpI xK yK) (cmpI xF yF))) ∧ Below wx.heap.size wx w'
  obtain ⟨W2, hW2⟩ : ∃ W2, W2 = (wx.alloc (.cells #[.slice xA xn xc, .int .i64 xK, .int .i64 xF, .int .i64 xV] 158)).alloc (.cells #[.slice yA yn yc, .int .i64 yK, .int .i64 yF, .int .i64 yV] 158) := ⟨_, rfl⟩
  obtain ⟨h1, hh1⟩ : ∃ h, h = wx.heap.size := ⟨_, rfl⟩
  obtain ⟨h2, hh2⟩ : ∃ h, h = wx.heap.size + 1 := ⟨_, rfl⟩
  have hb2 : Below wx.heap.size wx W2 := by rw [hW2]; exact ((Below.refl _ _).alloc (Nat.le_refl _) _).alloc (by simp) _
  have hk1 : Bk W2 h1 158 #[.slice xA xn xc, .int .i64 xK, .int .i64 xF, .int .i64 xV] := by rw [hW2, hh1]; exact (Bk.new _ _ _).alloc _
  have hk2 : Bk W2 h2 158 #[.slice yA yn yc, .int .i64 yK, .int .i64 yF, .int .i64 yV] := by
    rw [hW2, hh2]
    have h := Bk.new (wx.alloc (.cells #[.slice xA xn xc, .int .i64 xK, .int .i64 xF, .int .i64 xV] 158)) 158 #[.slice yA yn yc, .int .i64 yK, .int .i64 yF, .int .i64 yV]
    simpa using h
  obtain ⟨LX, hLX⟩ : ∃ LX, LX = lexC xp yp := ⟨_, rfl⟩
  rw [← hLX]
  have HCP : Hid (∀ wz, Below W2.heap.size W2 wz → Calls Try.prog 78 #[.slice xA xn xc, .slice yA yn yc] wz fun e w' => e = .returned (.int .i64 LX) ∧ Below wz.heap.size wz w') := Lib.hid fun wz hz => by
    rw [hLX]
    refine (compare_any (B := B) ((hx.rd.below (hb2.mono hB)).below (hz.mono (by have := hb2.size; omega))) ((hy.rd.below (hb2.mono hB)).below (hz.mono (by have := hb2.size; omega))) hx.len hy.len (Nat.le_trans hx.cap hx.cap2) (Nat.le_trans hy.cap hy.cap2)).mono fun e w' h => ?_
    obtain ⟨h1, m, h2⟩ := h
    exact ⟨h1, by rw [← h2]; exact below_dn (Below.refl _ _) m⟩
  have HS5 : Hid (∀ wz, Below W2.heap.size W2 wz → wz.cell? ⟨h1, 0, none⟩ = some (.slice xA xn xc) ∧ wz.cell? ⟨h1, 1, none⟩ = some (.int .i64 xK) ∧ wz.cell? ⟨h1, 2, none⟩ = some (.int .i64 xF) ∧ wz.cell? ⟨h2, 0, none⟩ = some (.slice yA yn yc) ∧ wz.cell? ⟨h2, 1, none⟩ = some (.int .i64 yK) ∧ wz.cell? ⟨h2, 2, none⟩ = some (.int .i64 yF)) := Lib.hid fun wz hz =>
    ⟨(hk1.below hz hk1.lt).cell 0, (hk1.below hz hk1.lt).cell 1, (hk1.below hz hk1.lt).cell 2, (hk2.below hz hk2.lt).cell 0, (hk2.below hz hk2.lt).cell 1, (hk2.below hz hk2.lt).cell 2⟩
  have s5 := HS5.out W2.drew (Below.refl _ _).drew
  have HCI := Lib.hid cmpI_any
  have HOR := Lib.hid or3_any
  have HB2 := Lib.hid hb2
  have HW2 := Lib.hid (And.intro hW2 (And.intro hh1 hh2))
  clear hx hy hb2 hk1 hk2 hLX hW2 hh1 hh2
  go_enter Try.func144, Try.ntmps144
  go_upto_region 1 with fail
  rw [← HW2.out.1, ← HW2.out.2.2, ← HW2.out.2.1]
  refine wp_region_H (S := fun wz => wz.cell? ⟨h1, 0, none⟩ = some (.slice xA xn xc) ∧ wz.cell? ⟨h1, 1, none⟩ = some (.int .i64 xK) ∧ wz.cell? ⟨h1, 2, none⟩ = some (.int .i64 xF) ∧ wz.cell? ⟨h2, 0, none⟩ = some (.slice yA yn yc) ∧ wz.cell? ⟨h2, 1, none⟩ = some (.int .i64 yK) ∧ wz.cell? ⟨h2, 2, none⟩ = some (.int .i64 yF)) (by kernel_rfl) ?_
  refine wpAnyH_val (i := 0) (v := .pointer (some ⟨h1, 0, none⟩)) (d := some 5) rfl rfl (by kernel_rfl) (by kernel_rfl) (by kernel_rfl) (fun _ _ _ h => h) (Or.inl ⟨by rfl, fun w hS => by (obtain ⟨h0, h1, h2, h3, h4, h5⟩ := hS; go_simp)⟩) s5 ?_
  (try simp only [Act.put, List.setIfInBounds_toArray, List.set_cons_zero, List.set_cons_succ])
  refine wpAnyH_val (i := 1) (v := .slice xA xn xc) (d := some 6) rfl rfl (by kernel_rfl) (by kernel_rfl) (by kernel_rfl) (fun _ _ _ h => h) (Or.inl ⟨by rfl, fun w hS => by (obtain ⟨h0, h1, h2, h3, h4, h5⟩ := hS; go_simp)⟩) s5 ?_
  (try simp only [Act.put, List.setIfInBounds_toArray, List.set_cons_zero, List.set_cons_succ])
  refine wpAnyH_val (i := 2) (v := .pointer (some ⟨h2, 0, none⟩)) (d := some 7) rfl rfl (by kernel_rfl) (by kernel_rfl) (by kernel_rfl) (fun _ _ _ h => h) (Or.inl ⟨by rfl, fun w hS => by (obtain ⟨h0, h1, h2, h3, h4, h5⟩ := hS; go_simp)⟩) s5 ?_
  (try simp only [Act.put, List.setIfInBounds_toArray, List.set_cons_zero, List.set_cons_succ])
  refine wpAnyH_val (i := 3) (v := .slice yA yn yc) (d := some 8) rfl rfl (by kernel_rfl) (by kernel_rfl) (by kernel_rfl) (fun _ _ _ h => h) (Or.inl ⟨by rfl, fun w hS => by (obtain ⟨h0, h1, h2, h3, h4, h5⟩ := hS; go_simp)⟩) s5 ?_
  (try simp only [Act.put, List.setIfInBounds_toArray, List.set_cons_zero, List.set_cons_succ])
  refine wpAnyH_val (i := 5) (v := .pointer (some ⟨h1, 1, none⟩)) (d := some 10) rfl rfl (by kernel_rfl) (by kernel_rfl) (by kernel_rfl) (fun _ _ _ h => h) (Or.inl ⟨by rfl, fun w hS => by (obtain ⟨h0, h1, h2, h3, h4, h5⟩ := hS; go_simp)⟩) s5 ?_
  (try simp only [Act.put, List.setIfInBounds_toArray, List.set_cons_zero, List.set_cons_succ])
  refine wpAnyH_val (i := 6) (v := .pointer (some ⟨h1, 1, none⟩)) (d := some 11) rfl rfl (by kernel_rfl) (by kernel_rfl) (by kernel_rfl) (fun _ _ _ h => h) (Or.inl ⟨by rfl, fun w hS => by (obtain ⟨h0, h1, h2, h3, h4, h5⟩ := hS; go_simp)⟩) s5 ?_
  (try simp only [Act.put, List.setIfInBounds_toArray, List.set_cons_zero, List.set_cons_succ])
  refine wpAnyH_val (i := 7) (v := .int .i64 xK) (d := some 12) rfl rfl (by kernel_rfl) (by kernel_rfl) (by kernel_rfl) (fun _ _ _ h => h) (Or.inl ⟨by rfl, fun w hS => by (obtain ⟨h0, h1, h2, h3, h4, h5⟩ := hS; go_simp)⟩) s5 ?_
  (try simp only [Act.put, List.setIfInBounds_toArray, List.set_cons_zero, List.set_cons_succ])
  refine wpAnyH_val (i := 8) (v := .pointer (some ⟨h2, 1, none⟩)) (d := some 13) rfl rfl (by kernel_rfl) (by kernel_rfl) (by kernel_rfl) (fun _ _ _ h => h) (Or.inl ⟨by rfl, fun w hS => by (obtain ⟨h0, h1, h2, h3, h4, h5⟩ := hS; go_simp)⟩) s5 ?_
  (try simp only [Act.put, List.setIfInBounds_toArray, List.set_cons_zero, List.set_cons_succ])
  refine wpAnyH_val (i := 9) (v := .pointer (some ⟨h2, 1, none⟩)) (d := some 14) rfl rfl (by kernel_rfl) (by kernel_rfl) (by kernel_rfl) (fun _ _ _ h => h) (Or.inl ⟨by rfl, fun w hS => by (obtain ⟨h0, h1, h2, h3, h4, h5⟩ := hS; go_simp)⟩) s5 ?_
  (try simp only [Act.put, List.setIfInBounds_toArray, List.set_cons_zero, List.set_cons_succ])
  refine wpAnyH_val (i := 10) (v := .int .i64 yK) (d := some 15) rfl rfl (by kernel_rfl) (by kernel_rfl) (by kernel_rfl) (fun _ _ _ h => h) (Or.inl ⟨by rfl, fun w hS => by (obtain ⟨h0, h1, h2, h3, h4, h5⟩ := hS; go_simp)⟩) s5 ?_
  (try simp only [Act.put, List.setIfInBounds_toArray, List.set_cons_zero, List.set_cons_succ])
  refine wpAnyH_val (i := 12) (v := .pointer (some ⟨h1, 1, none⟩)) (d := some 17) rfl rfl (by kernel_rfl) (by kernel_rfl) (by kernel_rfl) (fun _ _ _ h => h) (Or.inl ⟨by rfl, fun w hS => by (obtain ⟨h0, h1, h2, h3, h4, h5⟩ := hS; go_simp)⟩) s5 ?_
  (try simp only [Act.put, List.setIfInBounds_toArray, List.set_cons_zero, List.set_cons_succ])
  refine wpAnyH_val (i := 13) (v := .pointer (some ⟨h1, 2, none⟩)) (d := some 18) rfl rfl (by kernel_rfl) (by kernel_rfl) (by kernel_rfl) (fun _ _ _ h => h) (Or.inl ⟨by rfl, fun w hS => by (obtain ⟨h0, h1, h2, h3, h4, h5⟩ := hS; go_simp)⟩) s5 ?_
  (try simp only [Act.put, List.setIfInBounds_toArray, List.set_cons_zero, List.set_cons_succ])
  refine wpAnyH_val (i := 14) (v := .int .i64 xF) (d := some 19) rfl rfl (by kernel_rfl) (by kernel_rfl) (by kernel_rfl) (fun _ _ _ h => h) (Or.inl ⟨by rfl, fun w hS => by (obtain ⟨h0, h1, h2, h3, h4, h5⟩ := hS; go_simp)⟩) s5 ?_
  (try simp only [Act.put, List.setIfInBounds_toArray, List.set_cons_zero, List.set_cons_succ])
  refine wpAnyH_val (i := 15) (v := .pointer (some ⟨h2, 1, none⟩)) (d := some 20) rfl rfl (by kernel_rfl) (by kernel_rfl) (by kernel_rfl) (fun _ _ _ h => h) (Or.inl ⟨by rfl, fun w hS => by (obtain ⟨h0, h1, h2, h3, h4, h5⟩ := hS; go_simp)⟩) s5 ?_
  (try simp only [Act.put, List.setIfInBounds_toArray, List.set_cons_zero, List.set_cons_succ])
  refine wpAnyH_val (i := 16) (v := .pointer (some ⟨h2, 2, none⟩)) (d := some 21) rfl rfl (by kernel_rfl) (by kernel_rfl) (by kernel_rfl) (fun _ _ _ h => h) (Or.inl ⟨by rfl, fun w hS => by (obtain ⟨h0, h1, h2, h3, h4, h5⟩ := hS; go_simp)⟩) s5 ?_
  (try simp only [Act.put, List.setIfInBounds_toArray, List.set_cons_zero, List.set_cons_succ])
  refine wpAnyH_val (i := 17) (v := .int .i64 yF) (d := some 22) rfl rfl (by kernel_rfl) (by kernel_rfl) (by kernel_rfl) (fun _ _ _ h => h) (Or.inl ⟨by rfl, fun w hS => by (obtain ⟨h0, h1, h2, h3, h4, h5⟩ := hS; go_simp)⟩) s5 ?_
  (try simp only [Act.put, List.setIfInBounds_toArray, List.set_cons_zero, List.set_cons_succ])
  refine wpAnyH_oneW (i := 4) rfl (by kernel_rfl) (by rfl) ?_
  go_simp
  go_at_call 78
  (with_reducible refine (HCP.out _ ?hb).mono ?_)
  case hb => (repeat' first | exact Below.refl _ _ | refine Below.drew ?_)
  rintro e w6 ⟨rfl, hb6⟩
  have HA6 : Hid (Below W2.heap.size W2 w6) := Lib.hid (by first | exact hb6 | exact (Below.refl _ _).drew.trans hb6)
  refine And.intro (HS5.out _ HA6.out) ?_
  (try simp only [Act.put, List.setIfInBounds_toArray, List.set_cons_zero, List.set_cons_succ])
  refine wpAnyH_oneW (i := 11) rfl (by kernel_rfl) (by rfl) ?_
  go_simp
  go_at_call 146
  (with_reducible refine (HCI.out xK yK w6).mono ?_)
  rintro e w7 ⟨rfl, rfl⟩
  refine And.intro (HS5.out _ HA6.out) ?_
  (try simp only [Act.put, List.setIfInBounds_toArray, List.set_cons_zero, List.set_cons_succ])
  refine wpAnyH_oneW (i := 18) rfl (by kernel_rfl) (by rfl) ?_
  go_simp
  go_at_call 146
  (with_reducible refine (HCI.out xF yF _).mono ?_)
  rintro e w8 ⟨rfl, rfl⟩
  refine And.intro (HS5.out _ HA6.out) ?_
  (try simp only [Act.put, List.setIfInBounds_toArray, List.set_cons_zero, List.set_cons_succ])
  refine wpAnyH_oneW (i := 19) rfl (by kernel_rfl) (by rfl) ?_
  go_simp
  have HA9 : Hid (Below W2.heap.size W2 (w6.alloc (.cells #[.int .i64 LX, .int .i64 (cmpI xK yK), .int .i64 (cmpI xF yF)] 3))) := Lib.hid (HA6.out.alloc HA6.out.size _)
  refine And.intro (HS5.out _ HA9.out) ?_
  (try simp only [Act.put, List.setIfInBounds_toArray, List.set_cons_zero, List.set_cons_succ])
  refine wpAnyH_oneW (i := 20) rfl (by kernel_rfl) (by rfl) ?_
  go_simp
  go_at_call 145
  (with_reducible refine (HOR.out _ LX (cmpI xK yK) (cmpI xF yF)).mono ?_)
  rintro e w10 ⟨rfl, m, rfl⟩
  have HAX := Lib.hid (below_dn HA9.out m)
  refine And.intro (HS5.out _ HAX.out) ?_
  (try simp only [Act.put, List.setIfInBounds_toArray, List.set_cons_zero, List.set_cons_succ])
  refine wpAnyH_val (i := 21) (v := .int .i64 (or3 LX (cmpI xK yK) (cmpI xF yF))) (d := some 4) rfl rfl (by kernel_rfl) (by kernel_rfl) (by kernel_rfl) (fun _ _ _ h => h) (Or.inl ⟨by rfl, fun w hS => by (obtain ⟨h0, h1, h2, h3, h4, h5⟩ := hS; go_simp)⟩) (HS5.out _ HAX.out) ?_
  (try simp only [Act.put, List.setIfInBounds_toArray, List.set_cons_zero, List.set_cons_succ])
  refine wpAnyH_done (by kernel_rfl) ?_ _
  go_wp2_with fail
  go_ret
  exact ⟨rfl, HB2.out.trans (HAX.out.mono HB2.out.size)⟩

/-! ### Qn -/
theorem cmpI_self (a : Int) : cmpI a a = 0 := by unfold cmpI; rw [if_neg (Int.lt_irrefl a), if_neg (Int.lt_irrefl a)]
theorem cmpI_lt {a b : Int} (h : a < b) : cmpI a b = -1 := by unfold cmpI; rw [if_pos h]
theorem cmpI_gt {a b : Int} (h : b < a) : cmpI a b = 1 := by unfold cmpI; rw [if_neg (by omega), if_pos h]
theorem lexC_self : ∀ (a : List Int), lexC a a = 0
  | [] => rfl
  | x :: a => by rw [lexC, if_neg (by rw [cmpI_self]; simp)]; exact lexC_self a
theorem lexC_gt : ∀ {a b : List Int}, lexC a b = -1 → lexC b a = 1
  | [], [], h => by simp [lexC] at h
  | [], _ :: _, _ => rfl
  | _ :: _, [], h => by simp [lexC] at h
  | x :: a, y :: b, h => by
    rw [lexC] at h ⊢
    by_cases h1 : x < y
    · rw [cmpI_gt h1]; rfl
    · by_cases h2 : y < x
      · rw [cmpI_gt h2] at h; simp at h
      · obtain rfl : x = y := by omega
        rw [cmpI_self] at h ⊢
        simp only [ne_eq, not_true_eq_false, if_false] at h ⊢
        exact lexC_gt h
theorem lexC_ne {a b : List Int} (h : lexC a b = -1) : a ≠ b := fun e => by rw [e, lexC_self] at h; cases h
def LexP (l : List Blt) : Prop := (l.map Prod.fst).Pairwise fun a b => lexC a b = -1
theorem fst_of_shp {l r : List Blt} (h : l.map shp = r.map shp) : l.map Prod.fst = r.map Prod.fst := by
  have h2 := congrArg (List.map Prod.fst) h
  rw [List.map_map, List.map_map] at h2
  exact h2
theorem LexP.shp {l r : List Blt} (h : LexP l) (e : r.map shp = l.map shp) : LexP r := by unfold LexP; rw [fst_of_shp e]; exact h
theorem LexP.nil : LexP [] := List.Pairwise.nil
theorem oversF_lex (ks : List Kp2) (os : Osv) {l : List Blt} (h : LexP l) : LexP (oversF ks os l).2 := by
  by_cases h0 : (oversF ks os l).1 = 0
  · exact h.shp (oversF_shp ks os l h0)
  · have : (oversF ks os l).2 = [] := by
      clear h
      induction os generalizing l with
      | nil => exact absurd rfl h0
      | cons o r ih =>
        rw [oversF] at h0 ⊢
        split at h0
        · rename_i h2; rw [if_pos h2]
        · rename_i h2; rw [if_neg h2]; exact ih h0
    rw [this]; exact LexP.nil
theorem under_lex {i : Nat} {l : List Blt} (h : LexP l) : LexP (l.map fun b => ((i : Int) :: b.1, b.2)) := by
  unfold LexP at h ⊢
  rw [List.map_map, List.pairwise_map]
  rw [List.pairwise_map] at h
  refine h.imp fun {a b} hab => ?_
  show lexC ((i : Int) :: a.1) ((i : Int) :: b.1) = -1
  rw [lexC, if_neg (by rw [cmpI_self]; simp)]; exact hab
theorem partsF_lex {build : Int → Osv → Int × List Blt} (hb : ∀ n os, LexP (build n os).2) : ∀ (ps : List (Int × Osv)) (i : Nat) (out : List Blt), LexP out → (∀ b ∈ out, b.1 = [] ∨ ∃ (j : Nat) (r : List Int), b.1 = (j : Int) :: r ∧ j < i) → LexP (partsF build i ps out).2
  | [], _, _, h, _ => h
  | p :: r, i, out, h, hh => by
    rw [partsF]
    split
    · exact LexP.nil
    · split
      · exact LexP.nil
      · refine partsF_lex hb r (i + 1) _ ?_ fun b hb9 => ?_
        · unfold LexP
          rw [List.map_append, List.pairwise_append]
          refine ⟨h, under_lex (hb p.1 p.2), fun a ha c hc => ?_⟩
          obtain ⟨b, hb1, rfl⟩ := List.mem_map.1 ha
          obtain ⟨d, hd, rfl⟩ := List.mem_map.1 hc
          obtain ⟨e, _, rfl⟩ := List.mem_map.1 hd
          show lexC b.1 ((i : Int) :: e.1) = -1
          rcases hh b hb1 with h0 | ⟨j, q, h0, hj⟩
          · rw [h0]; rfl
          · rw [h0, lexC, if_pos (by rw [cmpI_lt (by omega)]; decide), cmpI_lt (by omega)]
        · rcases List.mem_append.1 hb9 with h1 | h1
          · rcases hh b h1 with h0 | ⟨j, q, h0, hj⟩
            · exact .inl h0
            · exact .inr ⟨j, q, h0, by omega⟩
          · obtain ⟨e, _, rfl⟩ := List.mem_map.1 h1
            exact .inr ⟨i, e.1, rfl, Nat.lt_succ_self i⟩
theorem buildF_lex (ks : List Kp2) (ts : List Tpl) : ∀ (d : Nat) (n : Int) (os : Osv), LexP (buildF ks ts d n os).2
  | 0, _, _ => LexP.nil
  | d + 1, n, os => by
    unfold buildF
    split
    · exact LexP.nil
    · split
      · exact LexP.nil
      · rename_i t _
        have h1 := partsF_lex (buildF_lex ks ts d) t.2 0 [([], t.1)] (List.pairwise_singleton _ _) (fun b hb => .inl (by rw [List.mem_singleton.1 hb]))
        generalize partsF (buildF ks ts d) 0 t.2 [([], t.1)] = Z at *
        obtain ⟨e, out⟩ := Z
        dsimp only at h1 ⊢
        split
        · exact LexP.nil
        · exact oversF_lex ks os h1
theorem LexP.ne {l : List Blt} (h : LexP l) : l.Pairwise fun a b => a.1 ≠ b.1 := by
  unfold LexP at h
  rw [List.pairwise_map] at h
  exact h.imp fun {a b} hab => lexC_ne hab

/-! ### The replacements are sorted -/
def cmpP (x y : List Int × Int × Int × Int) : Int := or3 (lexC x.1 y.1) (cmpI x.2.1 y.2.1) (cmpI x.2.2.1 y.2.2.1)
def SrtP (l : Osv) : Prop := l.Pairwise fun x y => 0 ≤ cmpP y x
theorem valsD_mem {path : List Int} {K : Int} : ∀ {l r : List Int} {f : Nat} {z}, z ∈ valsD path K f l r → z.1 = path ∧ z.2.1 = K ∧ (f : Int) ≤ z.2.2.1
  | [], r, f, z, h => by simp [valsD] at h
  | a :: l, [], f, z, h => by simp [valsD] at h
  | a :: l, b :: r, f, z, h => by
    rw [valsD] at h
    have go : ∀ z, z ∈ valsD path K (f + 1) l r → z.1 = path ∧ z.2.1 = K ∧ (f : Int) ≤ z.2.2.1 := fun z hz => by
      obtain ⟨h1, h2, h3⟩ := valsD_mem hz
      exact ⟨h1, h2, by omega⟩
    split at h
    · rcases List.mem_cons.1 h with rfl | h
      · exact ⟨rfl, rfl, Int.le_refl _⟩
      · exact go z h
    · exact go z h
theorem valsD_srt (path : List Int) (K : Int) : ∀ (l r : List Int) (f : Nat), SrtP (valsD path K f l r)
  | [], r, f => List.Pairwise.nil
  | a :: l, [], f => List.Pairwise.nil
  | a :: l, b :: r, f => by
    rw [valsD]
    have h1 := valsD_srt path K l r (f + 1)
    split
    · refine List.pairwise_cons.2 ⟨fun z hz => ?_, h1⟩
      obtain ⟨e1, e2, e3⟩ := valsD_mem hz
      unfold cmpP or3
      rw [e1, e2]
      show 0 ≤ if lexC path path ≠ 0 then _ else if cmpI K K ≠ 0 then _ else cmpI z.2.2.1 (f : Int)
      rw [lexC_self, if_neg (by simp), cmpI_self, if_neg (by simp), cmpI_gt (by omega)]
      decide
    · exact h1
theorem cmsD_mem {path : List Int} : ∀ {l r : List (Int × List Int)} {z}, z ∈ cmsD path l r → z.1 = path ∧ ∃ c ∈ l, z.2.1 = c.1
  | [], r, z, h => by simp [cmsD] at h
  | c :: l, [], z, h => by simp [cmsD] at h
  | c :: l, d :: r, z, h => by
    rw [cmsD] at h
    rcases List.mem_append.1 h with h | h
    · obtain ⟨h1, h2, _⟩ := valsD_mem h
      exact ⟨h1, c, List.mem_cons_self .., h2⟩
    · obtain ⟨h1, e, he, h2⟩ := cmsD_mem h
      exact ⟨h1, e, List.mem_cons_of_mem _ he, h2⟩
theorem cmsD_srt (path : List Int) : ∀ (l r : List (Int × List Int)), (l.Pairwise fun a b => a.1 < b.1) → SrtP (cmsD path l r)
  | [], r, _ => List.Pairwise.nil
  | c :: l, [], _ => List.Pairwise.nil
  | c :: l, d :: r, h => by
    rw [cmsD]
    obtain ⟨h1, h2⟩ := List.pairwise_cons.1 h
    refine List.pairwise_append.2 ⟨valsD_srt path c.1 c.2 d.2 0, cmsD_srt path l r h2, fun x hx y hy => ?_⟩
    obtain ⟨e1, e2, _⟩ := valsD_mem hx
    obtain ⟨f1, e, he, f2⟩ := cmsD_mem hy
    have := h1 e he
    unfold cmpP or3
    rw [e1, f1, lexC_self, if_neg (by simp), cmpI_gt (by omega), if_pos (by decide)]
    decide
theorem diffD_mem : ∀ {l r : List Blt} {z}, z ∈ diffD l r → ∃ b ∈ l, z.1 = b.1
  | [], r, z, h => by simp [diffD] at h
  | c :: l, [], z, h => by simp [diffD] at h
  | b :: l, w :: r, z, h => by
    rw [diffD] at h
    rcases List.mem_append.1 h with h | h
    · exact ⟨b, List.mem_cons_self .., (cmsD_mem h).1⟩
    · obtain ⟨e, he, h2⟩ := diffD_mem h
      exact ⟨e, List.mem_cons_of_mem _ he, h2⟩
theorem diffD_srt : ∀ (l r : List Blt), LexP l → (∀ b ∈ l, b.2.Pairwise fun a b => a.1 < b.1) → SrtP (diffD l r)
  | [], r, _, _ => List.Pairwise.nil
  | c :: l, [], _, _ => List.Pairwise.nil
  | b :: l, w :: r, h, hv => by
    rw [diffD]
    unfold LexP at h
    rw [List.map_cons] at h
    obtain ⟨h1, h2⟩ := List.pairwise_cons.1 h
    refine List.pairwise_append.2 ⟨cmsD_srt b.1 b.2 w.2 (hv b (List.mem_cons_self ..)), diffD_srt l r h2 (fun x hx => hv x (List.mem_cons_of_mem _ hx)), fun x hx y hy => ?_⟩
    have e1 := (cmsD_mem hx).1
    obtain ⟨e, he, f1⟩ := diffD_mem hy
    unfold cmpP or3
    rw [e1, f1, lexC_gt (h1 e.1 (List.mem_map_of_mem he)), if_pos (by decide)]
    decide
theorem SrtP.srt {l : List Ov} (h : SrtP (l.map Ov.p)) : SrtF l cmpO := fun i j x y hij hx hy => by
  unfold SrtP at h
  rw [List.pairwise_map] at h
  obtain ⟨h1, rfl⟩ := List.getElem?_eq_some_iff.1 hx
  obtain ⟨h2, rfl⟩ := List.getElem?_eq_some_iff.1 hy
  exact List.pairwise_iff_getElem.1 h i j h1 h2 hij

/-! ### Qo -/
theorem modF_mem2 {α : Type} {p : α → Bool} {f : α → α} {l : List α} {y : α} (h : y ∈ modF p f l) : y ∈ l ∨ ∃ x, l.find? p = some x ∧ y = f x := by
  induction l with
  | nil => cases h
  | cons a r ih =>
    unfold modF at h
    split at h
    · rename_i hp
      rcases List.mem_cons.1 h with h | h
      · exact .inr ⟨a, List.find?_cons_of_pos hp, h⟩
      · exact .inl (List.mem_cons_of_mem _ h)
    · rename_i hp
      rcases List.mem_cons.1 h with h | h
      · exact .inl (by rw [h]; exact List.mem_cons_self ..)
      · rcases ih h with h | ⟨x, h1, h2⟩
        · exact .inl (List.mem_cons_of_mem _ h)
        · exact .inr ⟨x, by rw [List.find?_cons_of_neg hp]; exact h1, h2⟩
theorem fit_hold {d : Kp2} {v : List Int} (h2 : (fitF d.1 d.2 v).2 = 0) (h1 : (fitF d.1 d.2 v).1 = v) : holdK d v = true := by
  unfold holdK holdsF
  simp only [Bool.and_eq_true, decide_eq_true_eq]
  exact ⟨h2, h1⟩
/-- A replacement leaves valid entities. -/
theorem ovSet_valid {ks : List Kp2} {l : List Blt} {path : List Int} {K F V : Int} (hc : ovCode ks l path K F V = 0) (h : ∀ b ∈ l, VCs holdK ks b.2) : ∀ b ∈ ovSet l path K F V, VCs holdK ks b.2 := by
  intro b hb
  unfold ovSet at hb
  rcases modF_mem2 hb with hb | ⟨x, hx, rfl⟩
  · exact h b hb
  · have hxm := List.mem_of_find?_eq_some hx
    have hv := h x hxm
    unfold ovCode at hc
    rw [hx] at hc
    dsimp only at hc
    show VCs holdK ks (modF (fun c => decide (c.1 = K)) (fun c => (c.1, c.2.set F.toNat V)) x.2)
    refine ⟨?_, fun c hcm => ?_⟩
    · have e := modF_map (p := fun c : Int × List Int => decide (c.1 = K)) (f := fun c => (c.1, c.2.set F.toNat V)) (g := Prod.fst) (fun c => rfl) x.2
      have h1 := hv.sorted
      rw [← List.pairwise_map (f := Prod.fst) (R := fun a b => a < b)] at h1 ⊢
      rw [e]; exact h1
    · rcases modF_mem2 hcm with hcm | ⟨c', hc', rfl⟩
      · exact hv.ok c hcm
      · have hcm' := List.mem_of_find?_eq_some hc'
        have hK : c'.1 = K := by have := List.find?_some hc'; simpa using this
        obtain ⟨k, d, h1, h2, h3⟩ := hv.ok c' hcm'
        rw [hc'] at hc
        dsimp only at hc
        refine ⟨k, d, h1, h2, ?_⟩
        split at hc
        · cases hc
        · unfold fitV at hc
          rw [show K.toNat = k by omega, h2] at hc
          dsimp only at hc
          split at hc
          · rename_i h4; exact absurd hc h4
          · rename_i h4
            split at hc
            · cases hc
            · rename_i h5
              exact fit_hold (Classical.byContradiction h4) (Classical.byContradiction h5)
theorem oversF_valid {ks : List Kp2} : ∀ (os : Osv) {l : List Blt}, (∀ b ∈ l, VCs holdK ks b.2) → ∀ b ∈ (oversF ks os l).2, VCs holdK ks b.2
  | [], _, h => h
  | o :: r, l, h => by
    rw [oversF]
    split
    · intro b hb; cases hb
    · rename_i h2
      exact oversF_valid r (ovSet_valid (Classical.byContradiction h2) h)
theorem partsF_valid {ks : List Kp2} {build : Int → Osv → Int × List Blt} (hb : ∀ n os, ∀ b ∈ (build n os).2, VCs holdK ks b.2) : ∀ (ps : List (Int × Osv)) (i : Nat) (out : List Blt), (∀ b ∈ out, VCs holdK ks b.2) → ∀ b ∈ (partsF build i ps out).2, VCs holdK ks b.2
  | [], _, _, h => h
  | p :: r, i, out, h => by
    rw [partsF]
    split
    · intro b hb; cases hb
    · split
      · intro b hb; cases hb
      · refine partsF_valid hb r _ _ fun b h3 => ?_
        rcases List.mem_append.1 h3 with h3 | h3
        · exact h b h3
        · obtain ⟨c, hc, rfl⟩ := List.mem_map.1 h3
          exact hb p.1 p.2 c hc
theorem buildF_valid {ks : List Kp2} {ts : List Tpl} (ht : ∀ t ∈ ts, VCs holdK ks t.1) : ∀ (d : Nat) (n : Int) (os : Osv), ∀ b ∈ (buildF ks ts d n os).2, VCs holdK ks b.2
  | 0, _, _ => fun b hb => by cases hb
  | d + 1, n, os => by
    unfold buildF
    split
    · intro b hb; cases hb
    · split
      · intro b hb; cases hb
      · rename_i t hn
        have h1 := partsF_valid (buildF_valid ht d) t.2 0 [([], t.1)] (fun b hb => by rw [List.mem_singleton.1 hb]; exact ht t (List.mem_of_getElem? hn))
        generalize partsF (buildF ks ts d) 0 t.2 [([], t.1)] = Z at *
        obtain ⟨e, out⟩ := Z
        dsimp only at h1 ⊢
        split
        · intro b hb; cases hb
        · exact oversF_valid os h1
/-- Values in their ranges are small. -/
theorem hold_wf {d : Kp2} {v : List Int} (h : holdK d v = true) : ∀ x ∈ v, (Lit.int .i64 x).wf = true := by
  obtain ⟨h1, h2, h3⟩ := holdK_iff.1 h
  intro x hx
  obtain ⟨i, hi⟩ := List.mem_iff_getElem?.1 hx
  have hil := (List.getElem?_eq_some_iff.1 hi).1
  obtain ⟨f, hf⟩ : ∃ f, d.2[i]? = some f := ⟨_, List.getElem?_eq_getElem (by omega)⟩
  have h4 := h3 i f hf
  rw [show v.getD i 0 = x by rw [List.getD_eq_getElem?_getD, hi]; rfl] at h4
  have h5 := one_ok h1 (List.mem_of_getElem? hf)
  have h6 := field_ok h5
  obtain ⟨B, hB⟩ : ∃ B : Nat, f.bits.toNat = B := ⟨_, rfl⟩
  have p1 := pow2_one B
  have p2 := pow2_32 B (by omega)
  unfold nearF highF at h4
  rw [if_pos h5, if_pos h5, hB] at h4
  generalize (2 : Int) ^ B = M at p1 p2 h4
  simp [Lit.wf, IntKind.min, IntKind.max, IntKind.signed, IntKind.bits]
  omega
/-- A build, with replacements, beside the one without. -/
structure BldOk (ks : List Kp2) (ts : List Tpl) (nn : Nat) (os : Osv) (H : List Blt) (e : Int) (X : List Blt) : Prop where
  h0 : buildF ks ts 20 nn [] = (0, H)
  h1 : buildF ks ts 20 nn os = (e, X)
  over : e = 0 → (0, X) = oversF ks os H
  shp : e = 0 → H.map shp = X.map shp
  pc : e = 0 → ∀ b ∈ X, pcompF ks none b.2 = 0
  wf : e = 0 → ∀ b ∈ X, ∀ c ∈ b.2, ∀ v ∈ c.2, (Lit.int .i64 v).wf = true
  few : e = 0 → os.length ≤ 40
  le : e = 0 → (diffD H X).length ≤ os.length
  srt : e = 0 → SrtP (diffD H X)
  back : e = 0 → buildF ks ts 20 nn (diffD H X) = (0, X)
theorem buildF_os {ks : List Kp2} {ts : List Tpl} {nn : Nat} {H : List Blt} (h0 : buildF ks ts 20 nn [] = (0, H)) {t : Tpl} (ht : ts[nn]? = some t) {os : Osv} (ho : os.length ≤ 40) : buildF ks ts 20 nn os = oversF ks os H := by
  rw [buildF, if_neg (by simp), Int.toNat_natCast, ht] at h0
  rw [buildF, if_neg (by omega), Int.toNat_natCast, ht]
  dsimp only at h0 ⊢
  generalize partsF (buildF ks ts 19) 0 t.2 [([], t.1)] = Z at *
  obtain ⟨e, out⟩ := Z
  dsimp only at h0 ⊢
  split at h0
  · rename_i h2; injection h0 with h0 _; exact absurd h0 h2
  · rename_i h2
    rw [if_neg h2]
    rw [oversF] at h0
    injection h0 with _ h0
    rw [h0]
theorem DrT.bldOk {ks : List Kp2} {T : List Tpl} (h : DrT ks T) (h4 : T.length ≤ 4) {n : Nat} {t : Tpl} (hn : T[n]? = some t) (os : Osv) : ∃ H e X, BldOk ks T n os H e X := by
  have hb := h.build h4 n 20 t [] (by have := (List.getElem?_eq_some_iff.1 hn).1; omega) hn (.inl rfl)
  obtain ⟨H, hH⟩ : ∃ H, buildF ks T 20 n [] = (0, H) := ⟨(buildF ks T 20 n []).2, Prod.ext hb.1 rfl⟩
  obtain ⟨e, X, hX⟩ : ∃ e X, buildF ks T 20 n os = (e, X) := ⟨_, _, rfl⟩
  have hVH := buildF_valid (ks := ks) (ts := T) (fun t ht => h.comps t ht) 20 n []
  have hVX := buildF_valid (ks := ks) (ts := T) (fun t ht => h.comps t ht) 20 n os
  have hLH := buildF_lex ks T 20 n []
  rw [hH] at hVH hLH
  rw [hX] at hVX
  have hfew : e = 0 → os.length ≤ 40 := fun he => by
    rcases Nat.lt_or_ge 40 os.length with h9 | h9
    · rw [buildF, if_pos h9] at hX
      injection hX with hX _
      omega
    · exact h9
  have hover : e = 0 → (0, X) = oversF ks os H := fun he => by
    rw [← buildF_os hH hn (hfew he), hX, he]
  have hshp : e = 0 → H.map shp = X.map shp := fun he => by
    have h1 := oversF_shp ks os H (by rw [← hover he])
    rw [← hover he] at h1
    exact h1.symm
  have hle : e = 0 → (diffD H X).length ≤ os.length := fun he => by
    have h1 := diffD_overs ks H os H
    rw [← hover he, diffD_self] at h1
    simpa using h1
  refine ⟨H, e, X, hH, hX, hover, hshp, fun he b hb => pcompF_ok _ none (hVX b hb) (fun p hp => by cases hp), fun he b hb c hc => ?_, hfew, hle, fun he => diffD_srt H X hLH (fun b hb => (hVH b hb).sorted), fun he => ?_⟩
  · obtain ⟨k, d, _, _, h3⟩ := (hVX b hb).ok c hc
    exact hold_wf h3
  · rw [buildF_os hH hn (Nat.le_trans (hle he) (hfew he))]
    exact diff_builds (hshp he) hLH.ne hVH hVX

/-! ### Qp -/
theorem enters144 : ∀ (ar : Array Value) (wx : World), (callFunc 144 ar).run Try.prog wx = .ok (.enter 144 ar) wx := fun ar wx => by kernel_rfl
theorem enters148 : ∀ (ar : Array Value) (wx : World), (callFunc 148 ar).run Try.prog wx = .ok (.enter 148 ar) wx := fun ar wx => by kernel_rfl
theorem enters149 : ∀ (ar : Array Value) (wx : World), (callFunc 149 ar).run Try.prog wx = .ok (.enter 149 ar) wx := fun ar wx => by kernel_rfl
/-- What was built, as a list that can be read. -/
theorem BuI.okB {w : World} {base m c : Nat} {ks : List Kd} {A : Option Addr} {l : List Bt} (h : BuI w base ks A m c l) : BsOk w w.heap.size A m c l :=
  ⟨Rd.of_own h.own, h.len, (own_cap2 h.own).1, (own_cap2 h.own).2, fun x hx => (h.ys.ok x hx).okB, Nat.le_refl _⟩
theorem BuI.keep {w w' : World} {base m c : Nat} {ks : List Kd} {A : Option Addr} {l : List Bt} (h : BuI w base ks A m c l) (hb : Below w.heap.size w w') : BuI w' base ks A m c l := by
  have hk : Kx 0 [] w w' := Kx.of_below hb
  exact ⟨hk.own h.own (by simp), h.len, h.ys.keep hk (by simp) (by simp), h.kok⟩
theorem OvI.keepB {w w' : World} {base m c : Nat} {A : Option Addr} {l : List Ov} (h : OvI w base A m c l) (hb : Below w.heap.size w w') : OvI w' base A m c l := h.keep (F := []) (Kx.of_below hb) (by simp) (by simp)

/-- prefab.Diff at a build. -/
theorem diffB_any {w : World} {B kn kc tn tc nn wn wc base : Nat} {kA TA WA : Option Addr} {ks : List Kd} {ts : List Pf} {lw : List Bt} {H X : List Blt} {os : Osv} (hk : KsOk w B kA kn kc ks) (ht : PfsOk w B TA tn tc ts) (hv : TplV ks ts) (hn : nn < tn) (hb : BuI w base ks WA wn wc lw) (hX : lw.map Bt.p = X) (hbo : BldOk (ks.map Kd.p) (ts.map Pf.p) nn os H 0 X) :
    Calls Try.prog 62 #[.slice kA kn kc, .slice TA tn tc, .int .i64 nn, .slice WA wn wc] w fun e w' => Below w.heap.size w w' ∧ ∃ (A : Option Addr) (m c : Nat) (l : List Ov), e = .returned (.tuple #[.slice A m c, .int .i64 0]) ∧ Hid (OvI w' w.heap.size A m c l ∧ l.map Ov.p = diffD H X) := by
  have h := diff_any (hk.moreP (B' := w.heap.size) hk.lo (Nat.le_refl _)) (B := w.heap.size) (ts := ts) (TA := TA) (tn := tn) (tc := tc) (nn := nn) (H := H)
    (by have h9 := PfsY.of_ok (B := w.heap.size) ht ht.lo; exact ⟨ht.rd.more ht.lo, ht.len, ht.cap, ht.cap2, (PfsY.ok_ h9).ok, Nat.le_refl _⟩) hv hn hb.okB hbo.h0 (by rw [hX]; exact hbo.shp rfl)
    (fun y hy => hbo.pc rfl y.p (by rw [← hX]; exact List.mem_map_of_mem hy))
    (fun y hy d hd v hvv => hbo.wf rfl y.p (by rw [← hX]; exact List.mem_map_of_mem hy) d.p (List.mem_map_of_mem hd) v hvv)
    (by rw [hX]; exact Nat.le_trans (hbo.le rfl) (hbo.few rfl))
  rw [hX] at h
  exact h

set_option maxHeartbeats 1600000 in
theorem clean_any {w : World} {B kn kc tn tc nn on oc : Nat} {kA TA oA : Option Addr} {ks : List Kd} {ts : List Pf} {ovs : List Ov} {H X : List Blt} {e9 : Int} (hk : KsOk w B kA kn kc ks) (ht : PfsOk w B TA tn tc ts) (hv : TplV ks ts) (hn : nn < tn) (ho : OvsOk w B oA on oc ovs) (hbo : BldOk (ks.map Kd.p) (ts.map Pf.p) nn (ovs.map Ov.p) H e9 X) :
    Calls Try.prog 63 #[.slice kA kn kc, .slice TA tn tc, .int .i64 nn, .slice oA on oc] w fun e w' => Below w.heap.size w w' ∧ ((e9 ≠ 0 ∧ e = .returned (.tuple #[.slice none 0 0, .int .i64 e9])) ∨ (e9 = 0 ∧ ∃ (A : Option Addr) (m c : Nat) (l : List Ov), e = .returned (.tuple #[.slice A m c, .int .i64 0]) ∧ Hid (OvI w' w.heap.size A m c l ∧ l.map Ov.p = diffD H X))) := by
  have hbl := pfbuild_any hk ht hv hn ho
  rw [hbo.h1] at hbl
  have HBL := Lib.hid hbl
  have HBO := Lib.hid hbo
  have hB := hk.lo
  have HDF := Lib.hid (fun (wx : World) (hb : Below w.heap.size w wx) (base wn wc : Nat) (WA : Option Addr) (lw : List Bt) (h1 : BuI wx base ks WA wn wc lw) (h2 : lw.map Bt.p = X) (h3 : BldOk (ks.map Kd.p) (ts.map Pf.p) nn (ovs.map Ov.p) H 0 X) => diffB_any (hk.below (hb.mono hB)) (ht.below (hb.mono hB)) hv hn h1 h2 h3)
  clear hk ht hv hn ho hbl hbo
  go_enter Try.func63, Try.ntmps63
  go_wp2_with fail
  (with_reducible refine HBL.out.mono ?_)
  clear HBL
  rintro e w1 ⟨hb1, hor⟩
  have HB1 := Lib.hid hb1
  clear hb1
  rcases hor with ⟨h0, rfl⟩ | ⟨h0, SA, sn, sc, sub, rfl, HS⟩
  · have h0 : e9 ≠ 0 := h0
    have t0 : (e9 != 0) = true := by simp [h0]
    go_wp2_with fail
    go_ret2
    exact ⟨HB1.out, .inl ⟨h0, rfl⟩⟩
  · have h0 : e9 = 0 := h0
    subst h0
    have HS : Hid (BuI w1 w.heap.size ks SA sn sc sub ∧ sub.map Bt.p = X) := HS
    have hw1 := HB1.out.size
    go_wp2_with fail
    (with_reducible refine (HDF.out w1 HB1.out _ _ _ _ _ HS.out.1 HS.out.2 HBO.out).mono ?_)
    clear HDF
    rintro e w2 ⟨hb2, A, m, c, l, rfl, HO⟩
    have HB2 : Hid (Below w.heap.size w w2) := Lib.hid (HB1.out.trans (hb2.mono hw1))
    clear hb2
    have hl40 : m ≤ 40 := by
      have h1 := HO.out.1.len
      have h2 := congrArg List.length HO.out.2
      rw [List.length_map] at h2
      have h3 := HBO.out.le rfl
      have h4 := HBO.out.few rfl
      omega
    have hsrt : SrtF l cmpO := SrtP.srt (by rw [HO.out.2]; exact HBO.out.srt rfl)
    have HST := Lib.hid (sortStable_any (F := 144) (C := cmpO) enters144 HO.out.1.y.ok_ (fun wx x y hb hx hy => clo144_any (B := w2.heap.size) x y ((HO.out.1.y.ok_.ok x hx).below hb) ((HO.out.1.y.ok_.ok y hy).below hb) hb.size) hsrt (by omega))
    have hcp := own_cap2 HO.out.1.own
    have hc1 := hcp.1
    have hc2 := hcp.2
    clear hsrt hcp
    go_wp2_with fail
    (with_reducible refine HST.out.mono ?_)
    clear HST
    rintro e w3 ⟨rfl, hb3⟩
    have HO3 : Hid (OvI w3 w1.heap.size A m c l) := Lib.hid (HO.out.1.keepB hb3)
    have HB3 : Hid (Below w.heap.size w w3) := Lib.hid (HB2.out.trans (hb3.mono HB2.out.size))
    clear hb3
    go_wp2_with fail
    go_ret2
    exact ⟨HB3.out, A, m, c, rfl, l, Lib.hid ⟨⟨own_monoP HO3.out.own hw1, HO3.out.len, HO3.out.ok⟩, HO.out.2⟩⟩

set_option maxHeartbeats 1600000 in
theorem clo149_any {wx : World} {B B' : Nat} (x y : Cm) (hx : CmOk wx B x) (hy : CmOk wx B' y) (hB : B ≤ wx.heap.size) (hB' : B' ≤ wx.heap.size) :
    Calls Try.prog 149 #[.agg #[.int .i64 x.k, .slice x.A x.n x.c], .agg #[.int .i64 y.k, .slice y.A y.n y.c]] wx fun e w' => e = .returned (.bool (decide (x.p = y.p))) ∧ Below wx.heap.size wx w' := by
  obtain ⟨xk, xA, xn, xc, xv⟩ := x
  obtain ⟨yk, yA, yn, yc, yv⟩ := y
  show Calls Try.prog 149 #[.agg #[.int .i64 xk, .slice xA xn xc], .agg #[.int .i64 yk, .slice yA yn yc]] wx _
  have hb1 : Below wx.heap.size wx ((wx.alloc (.cells #[.int .i64 xk, .slice xA xn xc] 166)).alloc (.cells #[.int .i64 yk, .slice yA yn yc] 166)) := ((Below.refl _ _).alloc (Nat.le_refl _) _).alloc (by simp) _
  have heq := equalInts_any xA yA xn xc yn yc (max B B') xv yv ((wx.alloc (.cells #[.int .i64 xk, .slice xA xn xc] 166)).alloc (.cells #[.int .i64 yk, .slice yA yn yc] 166)) hx.len hy.len (by have := hx.cap; have := hx.cap2; dsimp only at *; omega) ((hx.rd.below (hb1.mono hB)).more (by omega)) ((hy.rd.below (hb1.mono hB')).more (by omega))
  have HEQ := Lib.hid heq
  have HB1 := Lib.hid hb1
  clear hx hy hb1 heq
  by_cases hk : xk = yk
  · subst hk
    have hd : decide ((⟨xk, xA, xn, xc, xv⟩ : Cm).p = (⟨xk, yA, yn, yc, yv⟩ : Cm).p) = decide (xv = yv) := by
      rw [decide_eq_decide]; unfold Cm.p; simp
    rw [hd]
    clear hd
    obtain ⟨d, hd⟩ : ∃ d, d = decide (xv = yv) := ⟨_, rfl⟩
    rw [← hd] at HEQ ⊢
    clear hd
    have t0 : (xk == xk) = true := by simp
    go_enter Try.func149, Try.ntmps149
    go_wp2_with fail
    (with_reducible refine HEQ.out.mono ?_)
    rintro e w3 ⟨rfl, m, rfl⟩
    have HBn := Lib.hid (below_dn HB1.out m)
    go_wp2_with fail
    go_ret
    exact ⟨ret_b (by simp), HBn.out⟩
  · have hd : decide ((⟨xk, xA, xn, xc, xv⟩ : Cm).p = (⟨yk, yA, yn, yc, yv⟩ : Cm).p) = false := by
      rw [decide_eq_false]; unfold Cm.p; intro e; injection e with e; exact hk e
    rw [hd]
    clear hd
    have t0 : (xk == yk) = false := by simp [hk]
    clear hk
    go_enter Try.func149, Try.ntmps149
    go_wp2_with fail
    go_ret
    exact ⟨rfl, HB1.out⟩

set_option maxHeartbeats 1600000 in
theorem clo148_any {wx : World} {B B' : Nat} (x y : Bt) (hx : BtOk wx B x) (hy : BtOk wx B' y) (hB : B ≤ wx.heap.size) (hB' : B' ≤ wx.heap.size) :
    Calls Try.prog 148 #[.agg #[.slice x.pA x.pn x.pc, .slice x.cA x.cn x.cc], .agg #[.slice y.pA y.pn y.pc, .slice y.cA y.cn y.cc]] wx fun e w' => e = .returned (.bool (decide (x.p = y.p))) ∧ Below wx.heap.size wx w' := by
  obtain ⟨W2, hW2⟩ : ∃ W2, W2 = (wx.alloc (.cells #[.slice x.pA x.pn x.pc, .slice x.cA x.cn x.cc] 40)).alloc (.cells #[.slice y.pA y.pn y.pc, .slice y.cA y.cn y.cc] 40) := ⟨_, rfl⟩
  have hb2 : Below wx.heap.size wx W2 := by rw [hW2]; exact ((Below.refl _ _).alloc (Nat.le_refl _) _).alloc (by simp) _
  have hk1 : Bk W2 wx.heap.size 40 #[.slice x.pA x.pn x.pc, .slice x.cA x.cn x.cc] := by rw [hW2]; exact (Bk.new _ _ _).alloc _
  have hk2 : Bk W2 (wx.heap.size + 1) 40 #[.slice y.pA y.pn y.pc, .slice y.cA y.cn y.cc] := by
    rw [hW2]
    have h := Bk.new (wx.alloc (.cells #[.slice x.pA x.pn x.pc, .slice x.cA x.cn x.cc] 40)) 40 #[.slice y.pA y.pn y.pc, .slice y.cA y.cn y.cc]
    simpa using h
  have heq := equalInts_any x.pA y.pA x.pn x.pc y.pn y.pc (max B B') x.path y.path W2 hx.len hy.len (Nat.le_trans hx.cap hx.cap2) ((hx.rd.below (hb2.mono hB)).more (by omega)) ((hy.rd.below (hb2.mono hB')).more (by omega))
  have HEC : Hid (∀ m, Calls Try.prog 142 #[.slice x.cA x.cn x.cc, .slice y.cA y.cn y.cc, .func (.func 149) #[] #[]] (W2.drewN m) fun e w' => e = .returned (.bool (decide (x.cms.map Cm.p = y.cms.map Cm.p))) ∧ Below W2.heap.size (W2.drewN m) w') := Lib.hid fun m => by
    have hbm := below_dn hb2 m
    exact eqFuncCm_any (F := 149) Cm.p enters149 (hx.cs.below (hbm.mono hB)) (hy.cs.below (hbm.mono hB')) (fun wy a b _ _ h1 h2 h3 h4 => clo149_any a b h1 h2 h3 h4)
  have HEQ := Lib.hid heq
  have HB2 := Lib.hid hb2
  have HDD : Hid (decide (x.p = y.p) = (decide (x.path = y.path) && decide (x.cms.map Cm.p = y.cms.map Cm.p))) := Lib.hid (by rw [Bool.eq_iff_iff]; simp [Bt.p])
  have h00 : W2.cell? ⟨wx.heap.size, 0, none⟩ = some (.slice x.pA x.pn x.pc) := hk1.cell 0
  have h01 : ∀ m, (W2.drewN m).cell? ⟨wx.heap.size, 1, none⟩ = some (.slice x.cA x.cn x.cc) := fun m => hk1.cell 1
  have h10 : W2.cell? ⟨wx.heap.size + 1, 0, none⟩ = some (.slice y.pA y.pn y.pc) := hk2.cell 0
  have h11 : ∀ m, (W2.drewN m).cell? ⟨wx.heap.size + 1, 1, none⟩ = some (.slice y.cA y.cn y.cc) := fun m => hk2.cell 1
  have HC := Lib.hid (And.intro h01 h11)
  clear hx hy hb2 hk1 hk2 heq h01 h11
  obtain ⟨d1, hd1⟩ : ∃ d, d = decide (x.path = y.path) := ⟨_, rfl⟩
  obtain ⟨d2, hd2⟩ : ∃ d, d = decide (x.cms.map Cm.p = y.cms.map Cm.p) := ⟨_, rfl⟩
  rw [← hd1] at HEQ HDD
  rw [← hd2] at HEC HDD
  rw [HDD.out]
  clear HDD hd1 hd2
  go_enter Try.func148, Try.ntmps148
  go_upto_region 1 with fail
  rw [← hW2]
  clear hW2
  go_wp2_with fail
  (with_reducible refine HEQ.out.mono ?_)
  rintro e w3 ⟨rfl, m, rfl⟩
  have c0 := HC.out.1 m
  have c1 := HC.out.2 m
  have hwm : (W2.drewN m).heap.size = W2.heap.size := rfl
  cases d1
  · go_wp2_with fail
    go_ret
    exact ⟨by simp, below_dn HB2.out m⟩
  · go_wp2_with fail
    (with_reducible refine (HEC.out m).mono ?_)
    rintro e w4 ⟨rfl, hb4⟩
    have HB4 : Hid (Below wx.heap.size wx w4) := Lib.hid ((below_dn HB2.out m).trans (hb4.mono HB2.out.size))
    clear hb4
    go_wp2_with fail
    go_ret
    exact ⟨by simp, HB4.out⟩

set_option maxHeartbeats 800000 in
theorem sameBuilt_any {w : World} {B B' n n' c c' : Nat} {A A' : Option Addr} {l l' : List Bt} (h : BsOk w B A n c l) (h' : BsOk w B' A' n' c' l') :
    Calls Try.prog 64 #[.slice A n c, .slice A' n' c'] w fun e w' => e = .returned (.bool (decide (l.map Bt.p = l'.map Bt.p))) ∧ Below w.heap.size w w' := by
  have HE := Lib.hid (eqFuncBt_any (F := 148) Bt.p enters148 h h' (fun wy a b _ _ h1 h2 h3 h4 => clo148_any a b h1 h2 h3 h4))
  obtain ⟨d, hd⟩ : ∃ d, d = decide (l.map Bt.p = l'.map Bt.p) := ⟨_, rfl⟩
  rw [← hd] at HE ⊢
  clear h h' hd
  go_enter Try.func64, Try.ntmps64
  go_wp2_with fail
  (with_reducible refine HE.out.mono ?_)
  rintro e w3 ⟨rfl, hb⟩
  have HB := Lib.hid hb
  clear hb HE
  go_wp2_with fail
  go_ret
  exact ⟨rfl, HB.out⟩
end Go.Proofs.Ytnidcmhfbkdioaa
