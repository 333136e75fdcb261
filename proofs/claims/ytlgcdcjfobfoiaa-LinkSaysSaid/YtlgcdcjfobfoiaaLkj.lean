/-
  The walk of the law LinkSays. Conditions: what is read can be read.
-/
import Derived.Test.YtlgcdcjfobfoiaaLkh
import Derived.Test.YtlgcdcjfobfoiaaLkn
import Derived.Test.YtlgcdcjfobfoiaaLko
import Derived.Test.YtlgcdcjfobfoiaaLkq
import Derived.Test.YtlgcdcjfobfoiaaLkr
import Derived.Test.YtlgcdcjfobfoiaaLks
import Derived.Deep.CutRange
import Derived.Deep.RegionHeld3
import Derived.BigQuiet
namespace Go.Proofs.Ytlgcdcjfobfoiaa
open Go.RowKit
set_option maxRecDepth 100000

set_option maxHeartbeats 12000000 in
theorem linkSays_walk (XA RA : Option Addr) (xn xc rn rc : Nat) (xs : List Int) (raw : List Nat) (w : World) (hx : Rd w w.heap.size 1 XA xn (xs.map (Value.int .i64))) (hxn : xn = xs.length) (hxc : xn ≤ xc ∧ xc ≤ 9223372036854775807) (hwf : ∀ z ∈ xs, (Lit.int .i64 z).wf = true)
    (hr : Rd w w.heap.size 1 RA rn (bytesV raw)) (hrn : rn = raw.length) (hrc : rn ≤ rc ∧ rc ≤ 9223372036854775807) (hrl : ∀ b ∈ raw, b < 256) :
    Calls Try.prog 10 #[.slice XA xn xc, .slice RA rn rc] w fun e w' => e = .returned (.bool true) ∧ Below w.heap.size w w' := by
  have HX := Lib.hid hx
  have HXN := Lib.hid hxn
  have HWF := Lib.hid hwf
  have HR := Lib.hid hr
  have HRN := Lib.hid hrn
  have HRC := Lib.hid hrc
  have HRL := Lib.hid hrl
  obtain ⟨hx1, hx2⟩ := hxc
  clear hx hxn hwf hr hrn hrc hrl
  go_enter Try.func10, Try.ntmps10
  go_wp2_with fail
  refine (delivers_any w).mono ?_
  rintro e w1 ⟨rfl, hb1⟩
  go_wp2_with fail
  refine (linkNew_any w1).mono ?_
  rintro e w2 ⟨rfl, hw2⟩
  have hE1 : EndS w2 w.heap.size [w1.heap.size] w1.heap.size 0 0 [] [] := by rw [hw2]; exact EndS.new w1 _ hb1.size
  have hb2 : Below w.heap.size w w2 := by rw [hw2]; exact hb1.alloc hb1.size _
  have hs2 : w2.heap.size = w1.heap.size + 1 := by rw [hw2]; simp
  clear hw2
  go_wp2_with fail
  refine (linkNew_any w2).mono ?_
  rintro e w3 ⟨rfl, hw3⟩
  have hb23 : Below w2.heap.size w2 w3 := by rw [hw3]; exact (Below.refl _ _).alloc (Nat.le_refl _) _
  have hE2 : EndS w3 w.heap.size [w2.heap.size] w2.heap.size 0 0 [] [] := by rw [hw3]; exact EndS.new w2 _ hb2.size
  have hE1' : EndS w3 w.heap.size [w1.heap.size] w1.heap.size 0 0 [] [] := hE1.below hb23
  have hb3 : Below w.heap.size w w3 := hb2.trans (hb23.mono hb2.size)
  have hs3 : w3.heap.size = w2.heap.size + 1 := by rw [hw3]; simp
  clear hw3 hE1 hb23
  obtain ⟨kk, hkk⟩ : ∃ kk : Nat, kk = min xn 60 := ⟨_, rfl⟩
  have hk40 : kk ≤ 60 ∧ kk ≤ xn := by omega
  obtain ⟨hk40, hkx⟩ := hk40
  have hm1 : min (xn : Int) 60 = kk := by omega
  have hm2 : max (kk : Int) 0 = kk := by omega
  clear hkk
  go_wp2_with fail
  have hI0 : LsI w (((((w3.alloc (.cells #[.pointer (some ⟨w1.heap.size, 0, none⟩), .pointer (some ⟨w1.heap.size + 1, 0, none⟩)] 70)).alloc (.cells #[.slice none 0 0, .int .i64 0, .int .i64 0, .slice none 0 0] 76)).alloc (.cells #[.slice none 0 0, .int .i64 0, .int .i64 0, .slice none 0 0] 76)).alloc (.cells #[.pointer (some ⟨w1.heap.size + 1 + 1 + 1, 0, none⟩), .pointer (some ⟨w1.heap.size + 1 + 1 + 1 + 1, 0, none⟩)] 73)).alloc (.cells #[.slice none 0 0, .slice none 0 0] 78)) (w1.heap.size + 1 + 1) (w1.heap.size + 1 + 1 + 1 + 1 + 1) (w1.heap.size + 1 + 1 + 1 + 1 + 1 + 1) 0 (startD w1.heap.size) := LsI.start hb1.size hs2 hs3 hb3 hE1' hE2
  have HI0 := Lib.hid hI0
  have hb1s : w.heap.size ≤ w1.heap.size := hb1.size
  clear hI0 hb1 hb2 hb3 hE1' hE2 hm1 hm2
  generalize w1.heap.size + 1 + 1 + 1 + 1 + 1 + 1 = ba at *
  generalize w1.heap.size + 1 + 1 + 1 + 1 + 1 = bm at *
  generalize w1.heap.size + 1 + 1 = be at *
  obtain ⟨i5, hi5, hu0, hu1, hu2⟩ := info_parts T.info5
  obtain ⟨i30, hi30, hv0, hv1, hv2⟩ := info_parts T.info30
  go_loopg [32] kk (fun g v wr => ∃ (k : Nat) (D : Nat → Sd), k ≤ kk ∧ g = kk - k ∧ v = .int .i64 k ∧ Hid (LsI w wr be bm ba k D))
  case atStart => exact ⟨0, _, Nat.zero_le _, rfl, rfl, HI0⟩
  case round =>
    obtain ⟨k, D, hk, rfl, rfl, HI⟩ := hrel
    clear HI0
    by_cases hlt : k < kk
    · obtain ⟨z, hz⟩ : ∃ z, xs[k]? = some z := ⟨_, List.getElem?_eq_getElem (by have := HXN.out; omega)⟩
      obtain ⟨xb, xo, rfl, _, hcz⟩ := (HX.out.below HI.out.bel).at1 (show k < xn by omega) (u := .int .i64 z) (by rw [List.getElem?_map, hz]; rfl)
      clear hz
      obtain ⟨who, hwho, hwho1⟩ := and_maskL z 1 1 rfl (by omega)
      obtain ⟨T, hT, hT1⟩ := and_maskL (z / 2) 7 3 rfl (by omega)
      replace hwho : Go.bits .and .i64 z 1 = (who : Int) := hwho
      replace hT : Go.bits .and .i64 (z / 2) 7 = (T : Int) := hT
      go_upto_region 10 with fail
      go_cut [41] from 39 to 41 (fun s41 wx => s41 = .int .i64 T ∧ wr = wx)
      case first =>
        go_wp2_with fail
        go_meet
        exact ⟨rfl, rfl⟩
      case rest =>
        obtain ⟨rfl, rfl⟩ := hcut
        clear hT
        go_step
        have hw2 : who < 2 := by omega
        have hwz : (who : Int) < 2 := by omega
        have hwz0 : (0 : Int) ≤ who := by omega
        go_cut [] from 42 to 180 (fun wx => ∃ D', Hid (LsI w wx be bm ba (k + 1) D'))
        case first =>
          go_step
          go_step
          go_cut [41, 89] from 89 to 92 (fun s41 s89 wx => s41 = .int .i64 T ∧ s89 = .bool (decide (T ≤ 2)) ∧ wr = wx)
          case first =>
            obtain hT0 | hT0 | hT0 | hT0 : T = 0 ∨ T = 1 ∨ T = 2 ∨ 3 ≤ T := by omega
            · subst hT0; go_wp2_with fail; go_meet; exact ⟨rfl, rfl, rfl⟩
            · subst hT0; go_wp2_with fail; go_meet; exact ⟨rfl, rfl, rfl⟩
            · subst hT0; go_wp2_with fail; go_meet; exact ⟨rfl, rfl, rfl⟩
            · have t0 : ((T : Int) == 0) = false := by simp; omega
              have t1 : ((T : Int) == 1) = false := by simp; omega
              have t2 : ((T : Int) == 2) = false := by simp; omega
              go_wp2_with fail
              go_meet
              exact ⟨rfl, by rw [decide_eq_false (by omega)], rfl⟩
          case rest =>
            obtain ⟨rfl, rfl, rfl⟩ := hcut
            go_step
            by_cases hT2 : T ≤ 2
            · have hd : decide (T ≤ 2) = true := decide_eq_true hT2
              rw [hd]
              go_step
              refine lsSend_any (raw := raw) (by omega) hw2 HI ?_ ?_
              · intros
                rename_i hD
                obtain ⟨D6, HD6⟩ := hD
                go_wp2_with fail
                go_meet
                case rel => exact ⟨D6, HD6⟩
              · intros
                rename_i hD
                obtain ⟨D6, HD6⟩ := hD
                go_wp2_with fail
                go_roundg (kk - (k + 1))
                case measure => omega
                case rel => exact ⟨k + 1, D6, by omega, rfl, by go_num, HD6⟩
            · have hd : decide (T ≤ 2) = false := decide_eq_false hT2
              rw [hd]
              go_step
              go_step
              go_cut [41, 140] from 140 to 142 (fun s41 s140 wx => s41 = .int .i64 T ∧ s140 = .bool (decide (T ≤ 4)) ∧ wr = wx)
              case first =>
                obtain hT0 | hT0 | hT0 : T = 3 ∨ T = 4 ∨ 5 ≤ T := by omega
                · subst hT0; go_wp2_with fail; go_meet; exact ⟨rfl, rfl, rfl⟩
                · subst hT0; go_wp2_with fail; go_meet; exact ⟨rfl, rfl, rfl⟩
                · have t0 : ((T : Int) == 3) = false := by simp; omega
                  have t1 : ((T : Int) == 4) = false := by simp; omega
                  go_wp2_with fail
                  go_meet
                  exact ⟨rfl, by rw [decide_eq_false (by omega)], rfl⟩
              case rest =>
                obtain ⟨rfl, rfl, rfl⟩ := hcut
                go_step
                by_cases hT4 : T ≤ 4
                · have hd4 : decide (T ≤ 4) = true := decide_eq_true hT4
                  rw [hd4]
                  go_step
                  refine lsOut_any (raw := raw) (by omega) hw2 HI ?_
                  intros
                  rename_i hD
                  obtain ⟨D6, HD6⟩ := hD
                  go_wp2_with fail
                  go_meet
                  case rel => exact ⟨D6, HD6⟩

                · have hd4 : decide (T ≤ 4) = false := decide_eq_false hT4
                  rw [hd4]
                  go_step
                  go_step
                  go_cut [41, 166] from 166 to 167 (fun s41 s166 wx => s41 = .int .i64 T ∧ s166 = .bool (decide (T = 7)) ∧ wr = wx)
                  case first =>
                    by_cases hT7 : T = 7
                    · subst hT7; go_wp2_with fail; go_meet; exact ⟨rfl, rfl, rfl⟩
                    · have t0 : ((T : Int) == 7) = false := by simp; omega
                      go_wp2_with fail
                      go_meet
                      exact ⟨rfl, by rw [decide_eq_false hT7], rfl⟩
                  case rest =>
                    obtain ⟨rfl, rfl, rfl⟩ := hcut
                    go_step
                    by_cases hT7 : T = 7
                    · have hd7 : decide (T = 7) = true := decide_eq_true hT7
                      rw [hd7]
                      go_step
                      refine lsRaw_any (by omega) hw2 HI HR HRN HRC HRL ?_
                      intros
                      rename_i hD
                      obtain ⟨D6, HD6⟩ := hD
                      go_wp2_with fail
                      go_meet
                      case rel => exact ⟨D6, HD6⟩

                    · have hd7 : decide (T = 7) = false := decide_eq_false hT7
                      rw [hd7]
                      go_step
                      refine lsDef_any (raw := raw) (by omega) hw2 HI ?_ ?_
                      · intros
                        rename_i hD
                        obtain ⟨D6, HD6⟩ := hD
                        go_wp2_with fail
                        go_meet
                        case rel => exact ⟨D6, HD6⟩
                      · intros
                        rename_i hD
                        obtain ⟨D6, HD6⟩ := hD
                        go_wp2_with fail
                        go_roundg (kk - (k + 1))
                        case measure => omega
                        case rel => exact ⟨k + 1, D6, by omega, rfl, by go_num, HD6⟩
        case rest =>
          obtain ⟨D6, HD6⟩ := hcut
          go_step
          refine lsTail_any (raw := raw) (by omega) hw2 HD6 ?_
          intros
          rename_i hD
          obtain ⟨D7, HD7⟩ := hD
          go_wp2_with fail
          go_roundg (kk - (k + 1))
          case measure => omega
          case rel => exact ⟨k + 1, D7, by omega, rfl, by go_num, HD7⟩

    · obtain rfl : k = kk := by omega
      have hId := HI.out.drew
      have hS0 := hId.sd 0 (by omega)
      have hgb := got_both wr.drew hS0.en hS0.ha hS0.dFH (by have := hS0.gle; omega)
      have s5 : (wr.drew.cell? ⟨be, 0, none⟩ = some (.pointer (some ⟨(D 0).g, 0, none⟩)) ∧ wr.drew.cell? ⟨be, 1, none⟩ = some (.pointer (some ⟨(D 1).g, 0, none⟩))) ∧ wr.drew.cell? ⟨bm, 0, none⟩ = some (.pointer (some ⟨(D 0).h, 0, none⟩)) ∧ wr.drew.cell? ⟨bm, 1, none⟩ = some (.pointer (some ⟨(D 1).h, 0, none⟩)) := ⟨⟨hId.cE (by omega), hId.cE (by omega)⟩, hId.cM (by omega), hId.cM (by omega)⟩
      have HGB := Lib.hid hgb
      have HID := Lib.hid hId
      clear hId hS0 hgb
      go_wp2_with fail
      go_region_held3 (fun w' => (w'.cell? ⟨be, 0, none⟩ = some (.pointer (some ⟨(D 0).g, 0, none⟩)) ∧ w'.cell? ⟨be, 1, none⟩ = some (.pointer (some ⟨(D 1).g, 0, none⟩))) ∧ w'.cell? ⟨bm, 0, none⟩ = some (.pointer (some ⟨(D 0).h, 0, none⟩)) ∧ w'.cell? ⟨bm, 1, none⟩ = some (.pointer (some ⟨(D 1).h, 0, none⟩)))
        (first | (with_reducible exact s5) | (with_reducible exact s6) | (with_reducible exact s7) | go_keep)
        (first
          | (go_at_call_of 51 (Value.pointer (some ⟨(D 0).g, 0, none⟩))
             (with_reducible refine HGB.out.mono ?_)
             rintro e w6 ⟨F6, H6, rfl, hE6, hH6, hs6, ht6, hq6, hc6⟩
             have s6 : (w6.cell? ⟨be, 0, none⟩ = some (.pointer (some ⟨(D 0).g, 0, none⟩)) ∧ w6.cell? ⟨be, 1, none⟩ = some (.pointer (some ⟨(D 1).g, 0, none⟩))) ∧ w6.cell? ⟨bm, 0, none⟩ = some (.pointer (some ⟨(D 0).h, 0, none⟩)) ∧ w6.cell? ⟨bm, 1, none⟩ = some (.pointer (some ⟨(D 1).h, 0, none⟩)) := by
               have h1 := HID.out.arr (k := 0) (by omega) hq6 (fun b hb => List.mem_append.1 hb)
               exact ⟨⟨(h1 0).1.trans s5.1.1, (h1 1).1.trans s5.1.2⟩, (h1 0).2.1.trans s5.2.1, (h1 1).2.1.trans s5.2.2⟩
             have hI6 := HID.out.gotten (k := 0) (by omega) hE6 hH6 hs6 ht6 hq6
             have hS1 := hI6.sd 1 (by omega)
             rw [updS_ne _ _ (by omega)] at hS1
             have hgb1 := got_both w6 hS1.en hS1.ha hS1.dFH (by have := hS1.gle; omega)
             have HGB1 := Lib.hid hgb1
             have HI6 := Lib.hid hI6
             clear hE6 hH6 hs6 ht6 hq6 hc6 hI6 hS1 hgb1)
          | (go_at_call 51
             (with_reducible refine HGB1.out.mono ?_)
             rintro e w7 ⟨F7, H7, rfl, hE7, hH7, hs7, ht7, hq7, hc7⟩
             have hq8 : Fq ((updS D 0 { D 0 with F := F6, H := H6, G := [] } 1).F ++ (updS D 0 { D 0 with F := F6, H := H6, G := [] } 1).H) w6 w7 := by rw [updS_ne _ _ (by omega)]; exact hq7
             have s7 : (w7.cell? ⟨be, 0, none⟩ = some (.pointer (some ⟨(D 0).g, 0, none⟩)) ∧ w7.cell? ⟨be, 1, none⟩ = some (.pointer (some ⟨(D 1).g, 0, none⟩))) ∧ w7.cell? ⟨bm, 0, none⟩ = some (.pointer (some ⟨(D 0).h, 0, none⟩)) ∧ w7.cell? ⟨bm, 1, none⟩ = some (.pointer (some ⟨(D 1).h, 0, none⟩)) := by
               have h1 := HI6.out.arr (k := 1) (by omega) hq8 (fun b hb => List.mem_append.1 hb)
               exact ⟨⟨(h1 0).1.trans s6.1.1, (h1 1).1.trans s6.1.2⟩, (h1 0).2.1.trans s6.2.1, (h1 1).2.1.trans s6.2.2⟩
             have HB7 : Hid (Below w.heap.size w w7) := Lib.hid (HI6.out.bel.trans (hq8.below (fun b hb => ((HI6.out.sd 1 (by omega)).lt b (by rcases List.mem_append.1 hb with h1 | h1 <;> simp [Sd.bs, h1])).1) HI6.out.bel.size))
             clear hE7 hH7 hs7 ht7 hq7 hc7 hq8))
      go_wp2_with fail
      go_ret
      exact ⟨rfl, HB7.out⟩
end Go.Proofs.Ytlgcdcjfobfoiaa
