/-
  The walk of UndoSays. Conditions: lists of numbers that can be read.
-/
import Derived.Test.YtnidcmhfbkdioaaXr
import Derived.Test.YtnidcmhfbkdioaaXx
import Derived.Test.YtnidcmhfbkdioaaMu
namespace Go.Proofs.Ytnidcmhfbkdioaa
open Go.RowKit
set_option maxRecDepth 100000

theorem USe.quiet {w0 w w' : World} {hb : Nat} {AA NA : Option Addr} {L ac nc pa i : Nat} {K0 : List Kp2} (h : USe w0 w hb AA NA L ac nc pa K0 i) (hk : Below w.heap.size w w') : USe w0 w' hb AA NA L ac nc pa K0 i := by
  obtain ⟨_, _, _, _, _, _, _, _, _, _, h1⟩ := h
  exact ⟨_, _, _, _, _, _, _, _, _, _, h1.quiet hk⟩
theorem USe.bel {w0 w : World} {hb : Nat} {AA NA : Option Addr} {L ac nc pa i : Nat} {K0 : List Kp2} (h : USe w0 w hb AA NA L ac nc pa K0 i) : Below w0.heap.size w0 w := by
  obtain ⟨_, _, _, _, _, _, _, _, _, _, h1⟩ := h
  exact h1.bel
set_option maxHeartbeats 16000000 in
theorem undoSays_any (A A' : Option Addr) (n c n' c' B : Nat) (zs zs' : List Int) (w : World) (hr : Rd w B 1 A n (zs.map (Value.int .i64))) (hn : n = zs.length) (hnc : n ≤ c) (hc : c ≤ 9223372036854775807) (hz : ∀ z ∈ zs, (Lit.int .i64 z).wf = true)
    (hr' : Rd w B 1 A' n' (zs'.map (Value.int .i64))) (hn' : n' = zs'.length) (hnc' : n' ≤ c') (hc' : c' ≤ 9223372036854775807) (hz' : ∀ z ∈ zs', (Lit.int .i64 z).wf = true) (hB : B ≤ w.heap.size) :
    Calls Try.prog 18 #[.slice A n c, .slice A' n' c'] w fun e w' => e = .returned (.bool true) ∧ Below w.heap.size w w' := by
  have HWO := Lib.hid (world2_any A n c B zs w hr hn hnc hc hz hB)
  have HX := Lib.hid (And.intro hr' (And.intro hn' (And.intro hnc' (And.intro hc' (And.intro hz' hB)))))
  have HUN := Lib.hid undoes2_any
  clear hr hn hnc hc hz hr' hn' hz'
  go_enter Try.func18, Try.ntmps18
  go_wp2_with fail
  with_reducible refine (HWO.out).mono ?_
  clear HWO
  rintro e w1 ⟨x0, rfl, HX0, hb1⟩
  unfold Wd.v
  dsimp only
  obtain ⟨w2, hw2⟩ : ∃ w2, w2 = w1.alloc (.cells #[.slice x0.kA x0.kn x0.kc, .slice x0.gA x0.gn x0.gc, .slice x0.iA x0.im x0.ic] 52) := ⟨_, rfl⟩
  have hb2 : Below w.heap.size w w2 := by rw [hw2]; exact hb1.alloc hb1.size _
  have hk7 : Bk w2 w1.heap.size 52 #[.slice x0.kA x0.kn x0.kc, .slice x0.gA x0.gn x0.gc, .slice x0.iA x0.im x0.ic] := by rw [hw2]; exact Bk.new _ _ _
  have hx2 : WdY w2 0 x0 := HX0.out.1.1.keep (F := []) (by rw [hw2]; exact (Kx.refl (B := 0)).alloc _) (by simp) (by simp) (by simp) (by simp) (by simp)
  have hv0 := HX0.out.1.2.1
  have hc0 := HX0.out.1.2.2.1
  have HN := Lib.hid (new82_any x0 w2.heap.size w2 hx2.ok_ (Nat.le_refl _) (goodW_of hc0 hv0).sz (wcheck_of hc0 hv0))
  obtain ⟨h7, hh7⟩ : ∃ h7, h7 = w1.heap.size := ⟨_, rfl⟩
  rw [← hh7] at hk7
  have a0 : w2.cell? ⟨h7, 0, none⟩ = some (.slice x0.kA x0.kn x0.kc) := hk7.cell 0
  have a1 : w2.cell? ⟨h7, 1, none⟩ = some (.slice x0.gA x0.gn x0.gc) := hk7.cell 1
  have a2 : w2.cell? ⟨h7, 2, none⟩ = some (.slice x0.iA x0.im x0.ic) := hk7.cell 2
  have HB2 := Lib.hid hb2
  have HK7 := Lib.hid hk7
  have HX2 := Lib.hid hx2
  have HW2 := Lib.hid hw2
  have HH7 := Lib.hid hh7
  clear hb1 hb2 hk7 hx2 hw2 hh7
  go_upto_region 2 with fail
  rw [← HW2.out, ← HH7.out]
  clear HW2 HH7
  go_wp2_with fail
  with_reducible refine (HN.out).mono ?_
  clear HN
  rintro e w3 ⟨hb, y0, rfl, HY0, hb3⟩
  have HB3 := Lib.hid hb3
  clear hb3 a0 a1 a2
  go_wp2_with fail
  with_reducible refine (HUN.out w3).mono ?_
  clear HUN
  rintro e w4 ⟨rfl, hb4⟩
  have hz3 : w2.heap.size ≤ w3.heap.size := HB3.out.size
  have hz2 : w.heap.size ≤ w2.heap.size := HB2.out.size
  have hz4 : w3.heap.size ≤ w4.heap.size := hb4.size
  have hk4 : Kx 0 [] w2 w4 := (Kx.of_below HB3.out).trans (Kx.of_below hb4)
  have hb24 : Below w.heap.size w w4 := (HB2.out.trans (HB3.out.mono hz2)).trans (hb4.mono (by omega))
  have hk74 := hk4.bk HK7.out (by simp)
  have a0 : w4.cell? ⟨h7, 0, none⟩ = some (.slice x0.kA x0.kn x0.kc) := hk74.cell 0
  have a1 : w4.cell? ⟨h7, 1, none⟩ = some (.slice x0.gA x0.gn x0.gc) := hk74.cell 1
  have a2 : w4.cell? ⟨h7, 2, none⟩ = some (.slice x0.iA x0.im x0.ic) := hk74.cell 2
  obtain ⟨w5, hw5⟩ : ∃ w5, w5 = (w4.alloc (.cells #[.slice x0.kA x0.kn x0.kc, .slice x0.gA x0.gn x0.gc, .slice x0.iA x0.im x0.ic] 52)).alloc (.cells #[.string ⟨#[]⟩] 9) := ⟨_, rfl⟩
  have hb5 : Below w.heap.size w w5 := by rw [hw5]; exact (hb24.alloc hb24.size _).alloc (by have := hb24.size; simp; omega) _
  have hk5 : Kx 0 [] w4 w5 := by rw [hw5]; exact (Kx.refl.alloc _).alloc _
  have HU5 : Hid (USe w w5 hb (some ⟨w4.heap.size, 0, none⟩) (some ⟨w4.heap.size + 1, 0, none⟩) 1 1 1 0 x0.p.ks 0) := Lib.hid (by
    have hk35 : Kx 0 [] w3 w5 := (Kx.of_below hb4).trans hk5
    have hnew : Bk w5 w4.heap.size 52 #[.slice x0.kA x0.kn x0.kc, .slice x0.gA x0.gn x0.gc, .slice x0.iA x0.im x0.ic] := by rw [hw5]; exact (Bk.new _ _ _).alloc _
    have hnew2 : Bk w5 (w4.heap.size + 1) 9 #[.string ⟨#[]⟩] := by rw [hw5]; exact Bk.two _ _ _ _
    refine ⟨[x0], [⟨#[]⟩], y0, none, none, 0, 0, 0, [], [], ⟨⟨by simp [wdCs, Wd.cs], .inr ⟨_, 0, _, rfl, by omega, hnew, Nat.le_refl _, by omega, by simp, rfl⟩⟩, ⟨by simp [strV], .inr ⟨_, 0, _, rfl, by omega, hnew2, Nat.le_refl _, by omega, by simp, rfl⟩⟩, fun x hx => ?_⟩, ⟨hk35.bk HY0.out.1 (by simp), HY0.out.2.1.keep hk35 (by simp) (by simp) (by simp) (by simp) (by simp), RowM.nil0 _ _, RowM.nil0 _ _, (fun q hq => by simp [Value.ownBlock] at hq), by have := HY0.out.2.2.2; omega⟩, ⟨rfl, rfl, fun j s hs => by simp at hs⟩, ?_, rfl, by omega, hb5⟩
    · rw [List.mem_singleton.1 hx]
      exact ⟨(HX2.out.keep hk4 (by simp) (by simp) (by simp) (by simp) (by simp)).keep hk5 (by simp) (by simp) (by simp) (by simp) (by simp), hv0, rfl, HX0.out.1.2.2.2⟩
    · rw [HY0.out.2.2.1]; rfl)
  have HK : Hid (KOk x0.p.ks) := Lib.hid ⟨hc0, HX0.out.2⟩
  have HW5 := Lib.hid hw5
  generalize x0.p.ks = K0 at *
  obtain ⟨kk, hkk⟩ : ∃ kk, kk = min n' 120 := ⟨_, rfl⟩
  have hkn : kk ≤ n' := by omega
  have hk120 : kk ≤ 120 := by omega
  have hkz : min (n' : Int) 120 = (kk : Int) := by omega
  have hkc : kk ≤ c' := by omega
  have hkc2 : (kk : Int) ≤ c' := by omega
  have hkc0 : (0 : Int) ≤ kk := by omega
  have hc5 : c' ≤ 9223372036854775807 := HX.out.2.2.2.1
  clear hw5 hk4 hk5 hk74 hb24 hb4 hv0 hc0 hb5 hkk
  go_upto_region 6 with fail
  rw [← HW5.out]
  clear HW5 a0 a1 a2
  go_wp2_with fail
  generalize w4.heap.size + 1 = hN4 at *
  generalize w4.heap.size = hA4 at *
  go_loopg [8, 9, 10, 46] kk (fun g av nv pv iv wr => ∃ (i : Nat) (AA NA : Option Addr) (L ac nc pa : Nat), i ≤ kk ∧ g = kk - i ∧ iv = .int .i64 i ∧ av = .slice AA L ac ∧ nv = .slice NA L nc ∧ pv = .int .i64 pa ∧ Hid (USe w wr hb AA NA L ac nc pa K0 i))
  case atStart => exact ⟨0, _, _, 1, 1, 1, 0, Nat.zero_le _, rfl, rfl, rfl, rfl, rfl, HU5⟩
  case round =>
    clear HU5
    obtain ⟨i, AA, NA, L, ac, nc, pa, hi, rfl, rfl, rfl, rfl, rfl, HI⟩ := hrel
    obtain ⟨wo, rfl⟩ : ∃ q, q = wr := ⟨_, rfl⟩
    by_cases hlt : i < kk
    · obtain ⟨z, hz⟩ : ∃ z, zs'[i]? = some z := ⟨_, List.getElem?_eq_getElem (by have := HX.out.2.1; omega)⟩
      obtain ⟨xb, xo, rfl, hxb, hcz⟩ := (HX.out.1.below (HI.out.bel.mono HX.out.2.2.2.2.2)).at1 (show i < n' by omega) (u := .int .i64 z) (by rw [List.getElem?_map, hz]; rfl)
      have hi120 : i < 120 := by omega
      have hin : i < n' := by omega
      have hiz : (i : Int) < kk := by omega
      have hiz0 : (0 : Int) ≤ i := by omega
      obtain ⟨k3, hk3, hk3l⟩ : ∃ k3 : Nat, (i : Int) % 3 = k3 ∧ k3 < 3 := ⟨i % 3, by omega, by omega⟩
      obtain ⟨wv, hwv⟩ : ∃ wv, wv = wo.alloc (.cells #[.string ⟨#[97]⟩, .string ⟨#[98]⟩, .string ⟨#[99]⟩] 9) := ⟨_, rfl⟩
      have hbv : Below wo.heap.size wo wv := by rw [hwv]; exact Below.al (Below.refl _ _) _
      have hbn : Bk wv wo.heap.size 9 #[.string ⟨#[97]⟩, .string ⟨#[98]⟩, .string ⟨#[99]⟩] := by rw [hwv]; exact Bk.new _ _ _
      obtain ⟨nm, hnm⟩ : ∃ nm, wv.cell? ⟨wo.heap.size, k3, none⟩ = some (.string nm) := by
        obtain h | h | h : k3 = 0 ∨ k3 = 1 ∨ k3 = 2 := by omega
        · subst h; exact ⟨_, hbn.cell 0⟩
        · subst h; exact ⟨_, hbn.cell 1⟩
        · subst h; exact ⟨_, hbn.cell 2⟩
      have hk3z : (k3 : Int) < 3 := by omega
      have hk30 : (0 : Int) ≤ k3 := by omega
      obtain ⟨T, hT, hT1⟩ : ∃ T : Nat, z % 8 = (T : Int) ∧ T ≤ 7 := ⟨(z % 8).toNat, by omega, by omega⟩
      have hTb : bits BinOp.and IntKind.i64 z 7 = (T : Int) := by rw [and7, hT]
      have HBW := Lib.hid (below_any (i : Int) 3 wv (by omega) (by omega))
      rw [hk3] at HBW
      have HV : Hid (USe w wv hb AA NA L ac nc pa K0 i) := Lib.hid (HI.out.quiet hbv)
      have HWV := Lib.hid hwv
      clear hz hT hk3 hbn hbv hwv hxb
      go_upto_region 10 with
        (rw [← HWV.out]
         (with_reducible refine (HBW.out).mono ?_)
         rintro e wq ⟨rfl, rfl⟩)
      go_cut [57] from 56 to 57 (fun s57 wx => s57 = .int .i64 T ∧ wv = wx)
      case first =>
        go_wp2_with fail
        go_meet
        exact ⟨rfl, rfl⟩
      case rest =>
        obtain ⟨rfl, rfl⟩ := hcut
        clear hTb
        go_step
        go_cut [8, 9, 10] from 58 to 229 (fun s8 s9 s10 wx => ∃ (AA' NA' : Option Addr) (L' ac' nc' pa' : Nat), s8 = .slice AA' L' ac' ∧ s9 = .slice NA' L' nc' ∧ s10 = .int .i64 pa' ∧ Hid (USe w wx hb AA' NA' L' ac' nc' pa' K0 (i + 1)))
        case first =>
          go_step
          refine usSw_any hT1 HV HK hi120 HX hin ?_ ?_
          · intros
            rename_i hD
            go_wp2_with fail
            go_meet
            case rel => exact ⟨_, _, _, _, _, _, rfl, rfl, rfl, hD⟩
          · intros
            rename_i hD
            go_wp2_with fail
            go_roundg (kk - (i + 1))
            case measure => omega
            case rel => exact ⟨i + 1, AA, NA, L, ac, nc, pa, by omega, rfl, by go_num, rfl, rfl, rfl, hD⟩
        case rest =>
          obtain ⟨AA', NA', L', ac', nc', pa', rfl, rfl, rfl, HI6⟩ := hcut
          go_step
          refine usTail_any HI6 HK ?_
          intros
          rename_i hD
          go_wp2_with fail
          go_roundg (kk - (i + 1))
          case measure => omega
          case rel => exact ⟨i + 1, AA', NA', L', ac', nc', pa', by omega, rfl, by go_num, rfl, rfl, rfl, hD⟩
    · obtain rfl : i = kk := by omega
      have hbel := HI.out.bel
      go_wp2_with fail
      go_ret
      exact ⟨rfl, hbel⟩
end Go.Proofs.Ytnidcmhfbkdioaa
