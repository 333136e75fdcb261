/-
  The contract of kind.One. Conditions: what is read can be read.
-/
import Derived.Test.YtnidcmhfbkdioaaKb
namespace Go.Proofs.Ytnidcmhfbkdioaa
open Go.RowKit
set_option maxRecDepth 100000

def scanF : List Fd → List Fd → Int
  | _, [] => 0
  | seen, f :: r => if fieldF f ≠ 0 then fieldF f else if seen.any (fun o => decide (o.nm = f.nm)) then 5 else scanF (seen ++ [f]) r
def oneF (nm : ByteArray) (fds : List Fd) : Int := if nameF nm = false then 3 else if 8 < fds.length then 2 else scanF [] fds

theorem scanF_at {seen r : List Fd} {f : Fd} : scanF seen (f :: r) = if fieldF f ≠ 0 then fieldF f else if seen.any (fun o => decide (o.nm = f.nm)) then 5 else scanF (seen ++ [f]) r := rfl

set_option maxHeartbeats 1600000 in
theorem one_any (nm : ByteArray) (A : Option Addr) (n c B : Nat) (fds : List Fd) (w : World) (hr : Rd w B 3 A n (fdCs fds)) (hn : n = fds.length) (hc : n ≤ c) (_hc2 : c ≤ 9223372036854775807) (hB : B ≤ w.heap.size) :
    Calls Try.prog 161 #[.agg #[.string nm, .slice A n c]] w fun e w' => e = .returned (.int .i64 (oneF nm fds)) ∧ Below w.heap.size w w' := by
  obtain ⟨R, hR⟩ : ∃ R, R = oneF nm fds := ⟨_, rfl⟩
  rw [← hR]
  have HNM := Lib.hid (fun wx => name_any nm wx)
  have HR := Lib.hid hR
  have HN := Lib.hid hn
  have HRD := Lib.hid hr
  have HBB := Lib.hid hB
  obtain ⟨w1, hw1⟩ : ∃ w1, w1 = w.alloc (.cells #[.string nm, .slice A n c] 63) := ⟨_, rfl⟩
  have hk1 : Bk w1 w.heap.size 63 #[.string nm, .slice A n c] := by rw [hw1]; exact Bk.new _ _ _
  have hb1 : Below w.heap.size w w1 := by rw [hw1]; exact (Below.refl _ w).alloc (Nat.le_refl _) _
  have hs1 : w1.heap.size = w.heap.size + 1 := by rw [hw1]; simp
  have HK1 := Lib.hid hk1
  have HB1 := Lib.hid hb1
  have HS1 := Lib.hid hs1
  have k0 : w1.cell? ⟨w.heap.size, 0, none⟩ = some (.string nm) := hk1.cell 0
  have k1 : w1.cell? ⟨w.heap.size, 1, none⟩ = some (.slice A n c) := hk1.cell 1
  clear hr hn hR hk1 hb1 hB hs1
  go_enter Try.func161, Try.ntmps161
  go_wp2_with fail
  rw [← hw1]
  clear hw1
  refine (HNM.out _).mono ?_
  rintro e w2 ⟨rfl, rfl⟩
  cases hnm : nameF nm
  · go_wp2_with fail
    go_ret
    rw [HR.out, oneF, if_pos hnm]
    exact ⟨rfl, HB1.out⟩
  · by_cases h8 : 8 < n
    · have h8z : (8 : Int) < n := by omega
      go_wp2_with fail
      go_ret
      rw [HR.out, oneF, if_neg (by simp [hnm]), if_pos (by rw [← HN.out]; exact h8)]
      exact ⟨rfl, HB1.out⟩
    · have h8z : ¬ (8 : Int) < n := by omega
      have hR2 : Hid (R = scanF [] fds) := Lib.hid (by rw [HR.out, oneF, if_neg (by simp [hnm]), if_neg (by rw [← HN.out]; exact h8)])
      clear HR HNM
      go_wp2_with fail
      go_loopg [19] n (fun g v wr => ∃ k : Nat, k ≤ n ∧ g = n - k ∧ v = .int .i64 k ∧ Hid (R = scanF (fds.take k) (fds.drop k)) ∧ Hid (Below w1.heap.size w1 wr))
      case atStart => exact ⟨0, Nat.zero_le _, rfl, rfl, Lib.hid (by rw [hR2.out]; rfl), Lib.hid (Below.refl _ _)⟩
      case round =>
        obtain ⟨k, hk, rfl, rfl, HRK, HW⟩ := hrel
        obtain ⟨wk, rfl⟩ : ∃ wk, wk = wr := ⟨wr, rfl⟩
        clear hR2 k0 k1
        have hkr := HK1.out.below HW.out (by have := HS1.out; omega)
        have k0 : wk.cell? ⟨w.heap.size, 0, none⟩ = some (.string nm) := hkr.cell 0
        have k1 : wk.cell? ⟨w.heap.size, 1, none⟩ = some (.slice A n c) := hkr.cell 1
        clear hkr
        by_cases hkn : k < n
        · obtain ⟨f, hf⟩ : ∃ f, fds[k]? = some f := ⟨_, List.getElem?_eq_getElem (by have := HN.out; omega)⟩
          have hrw : Rd wk B 3 A n (fdCs fds) := (HRD.out.below (HB1.out.mono HBB.out)).below (HW.out.mono (by have := HS1.out; have := HBB.out; omega))
          obtain ⟨b, o, hA, hbB, c0, c1, c2⟩ := hrw.fd hkn hf
          subst hA
          have HRW := Lib.hid hrw
          have hdr : fds.drop k = f :: fds.drop (k + 1) := by
            rw [List.drop_eq_getElem_cons (by have := HN.out; omega)]
            congr 1
            exact (List.getElem?_eq_some_iff.1 hf).2
          have htk : fds.take (k + 1) = fds.take k ++ [f] := by rw [List.take_add_one, hf]; rfl
          have HRK2 : Hid (R = if fieldF f ≠ 0 then fieldF f else if (fds.take k).any (fun o => decide (o.nm = f.nm)) then 5 else scanF (fds.take (k + 1)) (fds.drop (k + 1))) := Lib.hid (by rw [HRK.out, hdr, scanF_at, htk])
          have hkz : (k : Int) < n := by omega
          have hkz0 : (0 : Int) ≤ k := by omega
          have HFA := Lib.hid (fun wx => field_any f wx)
          have hlt : w.heap.size < wk.heap.size := by have := HW.out.size; have := HS1.out; omega
          have HF := Lib.hid hf
          clear hrw hdr htk HRK hf
          generalize hnm' : f.nm = fn at *
          generalize f.bits = fb at *
          generalize f.low = fl at *
          go_wp2_with fail
          refine (HFA.out _).mono ?_
          rintro e w3 ⟨rfl, hb3⟩
          obtain ⟨v, hv⟩ : ∃ v, v = fieldF f := ⟨_, rfl⟩
          rw [← hv] at HRK2 ⊢
          clear hv HFA
          have hkv : Bk w3 wk.heap.size 66 #[.string fn, .int .i64 fb, .int .i64 fl] := (Bk.new wk 66 #[.string fn, .int .i64 fb, .int .i64 fl]).below hb3 (by simp)
          have hw3 : Below w1.heap.size w1 w3 := HW.out.trans (((Below.refl wk.heap.size wk).alloc (Nat.le_refl _) (.cells #[.string fn, .int .i64 fb, .int .i64 fl] 66) |>.trans (hb3.mono (by simp))).mono HW.out.size)
          have hs3 : wk.heap.size < w3.heap.size := hkv.lt
          have HKV := Lib.hid hkv
          have HW3 := Lib.hid hw3
          have HFIN : Hid (∀ wx, Below w3.heap.size w3 wx → Below w.heap.size w wx) := Lib.hid fun wx hx => (HB1.out.trans (hw3.mono (by have := HS1.out; omega))).trans (hx.mono (by have := HW.out.size; have := HS1.out; omega))
          have HB3 := Lib.hid (hb3.mono (B' := wk.heap.size) (by simp))
          have HBW : Hid (B ≤ wk.heap.size) := Lib.hid (by have := HW.out.size; have := HS1.out; have := HBB.out; omega)
          clear hb3 hkv hw3
          by_cases hv0 : v = 0
          · subst hv0
            have HRK3 : Hid (R = if (fds.take k).any (fun o => decide (o.nm = fn)) then 5 else scanF (fds.take (k + 1)) (fds.drop (k + 1))) := Lib.hid (by rw [HRK2.out, if_neg (by simp)])
            have hk1' : w3.cell? ⟨w.heap.size, 1, none⟩ = some (.slice (some ⟨b, o, none⟩) n c) := (HK1.out.below HW3.out (by have := HS1.out; omega)).cell 1
            clear HRK2 c0 c1 c2 k0 k1
            go_wp2_with fail
            go_loopg [34] k (fun g v wi => ∃ j : Nat, j ≤ k ∧ g = k - j ∧ v = .int .i64 j ∧ Hid (∀ i, i < j → ∀ x, fds[i]? = some x → x.nm ≠ fn) ∧ Hid (Below w3.heap.size w3 wi))
            case atStart => exact ⟨0, Nat.zero_le _, rfl, rfl, Lib.hid (fun i hi => by omega), Lib.hid (Below.refl _ _)⟩
            case round =>
              obtain ⟨j, hj, rfl, rfl, HNE, HI⟩ := hrel
              obtain ⟨wi, rfl⟩ : ∃ wi, wi = wr := ⟨wr, rfl⟩
              have hkv : Bk wi wk.heap.size 66 #[.string fn, .int .i64 fb, .int .i64 fl] := HKV.out.below HI.out hs3
              have HKVI := Lib.hid hkv
              clear hkv
              by_cases hjk : j < k
              · obtain ⟨g, hg⟩ : ∃ g, fds[j]? = some g := ⟨_, List.getElem?_eq_getElem (by have := HN.out; omega)⟩
                have hri : Rd wi B 3 (some ⟨b, o, none⟩) n (fdCs fds) := HRW.out.below (((((Below.refl wk.heap.size wk).alloc (Nat.le_refl _) (.cells #[.string fn, .int .i64 fb, .int .i64 fl] 66)).trans HB3.out).trans (HI.out.mono (by omega))).mono HBW.out)
                obtain ⟨b', o', hA', _, d0, d1, d2⟩ := hri.fd (show j < n by omega) hg
                obtain ⟨rfl, rfl⟩ : b' = b ∧ o' = o := by injection hA' with hA'; injection hA' with h1 h2; exact ⟨h1.symm, h2.symm⟩
                have hjz : (j : Int) < k := by omega
                have HG := Lib.hid hg
                clear hri hg hA'
                generalize hgn : g.nm = gn at *
                generalize g.bits = gb at *
                generalize g.low = gl at *
                have HGN := Lib.hid hgn
                clear hgn
                have v1 : (wi.alloc (.cells #[.string gn, .int .i64 gb, .int .i64 gl] 66)).cell? ⟨wk.heap.size, 0, none⟩ = some (.string fn) := (HKVI.out.alloc _).cell 0
                by_cases hgf : gn = fn
                · subst hgf
                  go_wp2_with fail
                  go_ret
                  have hany : (fds.take k).any (fun o => decide (o.nm = gn)) = true := by
                    rw [List.any_eq_true]
                    refine ⟨g, List.mem_of_getElem? (i := j) ?_, by simp [HGN.out]⟩
                    rw [List.getElem?_take, if_pos hjk]; exact HG.out
                  rw [HRK3.out, if_pos hany]
                  exact ⟨rfl, HFIN.out _ (HI.out.alloc HI.out.size _)⟩
                · have hgb : (gn == fn) = false := ba_beq_ne hgf
                  have hgl : (gn.toList == fn.toList) = false := ba_tl_ne hgf
                  have hgd : decide (gn = fn) = false := decide_eq_false hgf
                  go_wp2_with fail
                  go_roundg (k - (j + 1))
                  case measure => omega
                  case rel => exact ⟨j + 1, by omega, rfl, by go_num, Lib.hid fun i hi x hx => by
                    rcases Nat.lt_or_ge i j with h | h
                    · exact HNE.out i h x hx
                    · obtain rfl : i = j := by omega
                      rw [HG.out] at hx
                      injection hx with hx
                      rw [← hx, HGN.out]; exact hgf, Lib.hid (HI.out.alloc HI.out.size _)⟩
              · obtain rfl : j = k := by omega
                go_wp2_with fail
                go_roundg (n - (j + 1))
                case measure => omega
                case rel =>
                  have hany : (fds.take j).any (fun o => decide (o.nm = fn)) = false := by
                    rw [List.any_eq_false]
                    intro x hx
                    obtain ⟨i, hi⟩ := List.mem_iff_getElem?.1 hx
                    rw [List.getElem?_take] at hi
                    split at hi
                    · rename_i hlt
                      simp [HNE.out i hlt x hi]
                    · cases hi
                  exact ⟨j + 1, by omega, rfl, by go_num, Lib.hid (by rw [HRK3.out, if_neg (by rw [hany]; simp)]), Lib.hid (HW3.out.trans (HI.out.mono (by have := HW.out.size; omega)))⟩
          · have hvb : (v != 0) = true := by simp [hv0]
            go_wp2_with fail
            go_ret
            rw [HRK2.out, if_pos hv0]
            exact ⟨rfl, HFIN.out _ (Below.refl _ _)⟩
        · obtain rfl : k = n := by omega
          go_wp2_with fail
          go_ret
          rw [HRK.out, List.drop_eq_nil_of_le (by rw [← HN.out]; exact Nat.le_refl _)]
          exact ⟨rfl, HB1.out.trans (HW.out.mono (by have := HS1.out; omega))⟩
end Go.Proofs.Ytnidcmhfbkdioaa
