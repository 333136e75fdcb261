/-
  The contract of kind.Check. Conditions: what is read can be read.
-/
import Derived.Test.YtnidcmhfbkdioaaKd
namespace Go.Proofs.Ytnidcmhfbkdioaa
open Go.RowKit
set_option maxRecDepth 100000

def chkF : List (ByteArray × List Fd) → List (ByteArray × List Fd) → Int
  | _, [] => 0
  | seen, k :: r => if oneF k.1 k.2 ≠ 0 then oneF k.1 k.2 else if (seen.map (·.1)).any (fun o => decide (o = k.1)) then 5 else chkF (seen ++ [k]) r
theorem chkF_at {seen r : List (ByteArray × List Fd)} {k : ByteArray × List Fd} : chkF seen (k :: r) = if oneF k.1 k.2 ≠ 0 then oneF k.1 k.2 else if (seen.map (·.1)).any (fun o => decide (o = k.1)) then 5 else chkF (seen ++ [k]) r := rfl
def checkF (l : List (ByteArray × List Fd)) : Int := if 16 < l.length then 2 else chkF [] l
theorem kdCs_length (l : List Kd) : (kdCs l).length = l.length * 2 := by
  induction l with
  | nil => rfl
  | cons a l ih => simp only [kdCs, List.flatMap_cons] at ih ⊢; rw [List.length_append, ih]; simp [Kd.cs]; omega
theorem kdCs_take (l : List Kd) (k : Nat) : kdCs (l.take k) = (kdCs l).take (k * 2) := by
  induction l generalizing k with
  | nil => simp [kdCs]
  | cons a l ih =>
    cases k with
    | zero => simp [kdCs]
    | succ k =>
      have := ih k
      simp only [kdCs, List.take_succ_cons, List.flatMap_cons] at this ⊢
      rw [this, show (k + 1) * 2 = (Kd.cs a).length + k * 2 by simp [Kd.cs]; omega, List.take_length_add_append]
theorem Rd.takeK {w : World} {B n k : Nat} {A : Option Addr} {l : List Kd} (h : Rd w B 2 A n (kdCs l)) (hk : k ≤ n) (hn : n = l.length) : Rd w B 2 A k (kdCs (l.take k)) := by
  refine ⟨by rw [kdCs_length, List.length_take]; omega, fun h0 => ?_⟩
  obtain ⟨b, o, e, hb, hc⟩ := h.2 (by omega)
  refine ⟨b, o, e, hb, fun j u hu => hc j u ?_⟩
  rw [kdCs_take, List.getElem?_take] at hu
  split at hu
  · exact hu
  · cases hu

set_option maxHeartbeats 1600000 in
theorem check_any (A : Option Addr) (n c B : Nat) (ks : List Kd) (w : World) (hr : Rd w B 2 A n (kdCs ks)) (hn : n = ks.length) (hc : n ≤ c) (hc2 : c ≤ 9223372036854775807) (hks : ∀ k ∈ ks, KdOk w B k) (hB : B ≤ w.heap.size) :
    Calls Try.prog 94 #[.slice A n c] w fun e w' => e = .returned (.int .i64 (checkF (ks.map Kd.p))) ∧ Below w.heap.size w w' := by
  obtain ⟨R, hR⟩ : ∃ R, R = checkF (ks.map Kd.p) := ⟨_, rfl⟩
  rw [← hR]
  have HN := Lib.hid hn
  have HRD := Lib.hid hr
  have HBB := Lib.hid hB
  have HKS := Lib.hid hks
  by_cases h16 : 16 < n
  · have h16z : (16 : Int) < n := by omega
    have HR : Hid (R = 2) := Lib.hid (by rw [hR, checkF, if_pos (by rw [List.length_map, ← hn]; exact h16)])
    clear hr hn hR hB hks h16
    go_enter Try.func94, Try.ntmps94
    go_wp2_with fail
    go_ret
    rw [HR.out]
    exact ⟨rfl, Below.refl _ _⟩
  · have h16z : ¬ (16 : Int) < n := by omega
    have HR : Hid (R = chkF [] (ks.map Kd.p)) := Lib.hid (by rw [hR, checkF, if_neg (by rw [List.length_map, ← hn]; exact h16)])
    clear hr hn hR hB hks
    go_enter Try.func94, Try.ntmps94
    go_wp2_with fail
    go_loopg [11] n (fun g v wr => ∃ k : Nat, k ≤ n ∧ g = n - k ∧ v = .int .i64 k ∧ Hid (R = chkF ((ks.map Kd.p).take k) ((ks.map Kd.p).drop k)) ∧ Hid (Below w.heap.size w wr))
    case atStart => exact ⟨0, Nat.zero_le _, rfl, rfl, Lib.hid (by rw [HR.out]; rfl), Lib.hid (Below.refl _ _)⟩
    case round =>
      obtain ⟨k, hk, rfl, rfl, HRK, HW⟩ := hrel
      clear HR
      by_cases hkn : k < n
      · obtain ⟨f, hf⟩ : ∃ f, ks[k]? = some f := ⟨_, List.getElem?_eq_getElem (by have := HN.out; omega)⟩
        have hrw : Rd wr B 2 A n (kdCs ks) := HRD.out.below (HW.out.mono HBB.out)
        obtain ⟨b, o, hA, hbB, c0, c1⟩ := hrw.kd hkn hf
        subst hA
        have hfp : (ks.map Kd.p)[k]? = some f.p := by rw [List.getElem?_map, hf]; rfl
        have hdr : (ks.map Kd.p).drop k = f.p :: (ks.map Kd.p).drop (k + 1) := by
          rw [List.drop_eq_getElem_cons (by rw [List.length_map]; have := HN.out; omega)]
          congr 1
          exact (List.getElem?_eq_some_iff.1 hfp).2
        have htk : (ks.map Kd.p).take (k + 1) = (ks.map Kd.p).take k ++ [f.p] := by rw [List.take_add_one, hfp]; rfl
        have HRK2 : Hid (R = if oneF f.nm f.fds ≠ 0 then oneF f.nm f.fds else if (((ks.map Kd.p).take k).map (·.1)).any (fun o => decide (o = f.nm)) then 5 else chkF ((ks.map Kd.p).take (k + 1)) ((ks.map Kd.p).drop (k + 1))) := Lib.hid (by rw [HRK.out, hdr, chkF_at, htk]; rfl)
        have hfk := (HKS.out f (List.mem_of_getElem? hf)).below (HW.out.mono HBB.out)
        have hw4 := (Below.refl wr.heap.size wr).alloc (Nat.le_refl _) (.cells #[.string f.nm, .slice f.A f.n f.c] 63)
        have hone := one_any f.nm f.A f.n f.c B f.fds (wr.alloc (.cells #[.string f.nm, .slice f.A f.n f.c] 63)) ((hfk.below (hw4.mono (Nat.le_trans HBB.out HW.out.size))).rd) hfk.len hfk.cap hfk.cap2 (by have := HW.out.size; have := HBB.out; simp; omega)
        have HONE := Lib.hid hone
        have hkz : (k : Int) < n := by omega
        have hkz0 : (0 : Int) ≤ k := by omega
        have hkc : (k : Int) ≤ c := by omega
        obtain ⟨v, hv⟩ : ∃ v, v = oneF f.nm f.fds := ⟨_, rfl⟩
        rw [← hv] at HRK2 HONE
        clear hrw hdr htk hfp hfk hw4 hone hv HRK hf
        generalize f.nm = fn at *
        generalize f.A = fA at *
        generalize f.n = fl at *
        generalize f.c = fc at *
        go_wp2_with fail
        refine HONE.out.mono ?_
        rintro e w3 ⟨rfl, hb3⟩
        have hk3 : Bk w3 wr.heap.size 63 #[.string fn, .slice fA fl fc] := (Bk.new wr 63 #[.string fn, .slice fA fl fc]).below hb3 (by simp)
        have hb4 : Below w.heap.size w w3 := (HW.out.alloc HW.out.size (.cells #[.string fn, .slice fA fl fc] 63)).trans (hb3.mono (by have := HW.out.size; simp; omega))
        have s3 : w3.drew.cell? ⟨wr.heap.size, 0, none⟩ = some (.string fn) := hk3.cell 0
        have HB4 := Lib.hid hb4
        have HK3 := Lib.hid hk3
        have hb4d : Below w.heap.size w w3.drew := hb4.drew
        have hfi := find_any (some ⟨b, o, none⟩) k c B (ks.take k) fn w3.drew ((HRD.out.below (hb4d.mono HBB.out)).takeK (by omega) HN.out) (by rw [List.length_take]; have := HN.out; omega) (by omega) hc2 (Nat.le_trans HBB.out hb4d.size)
        have HFI := Lib.hid hfi
        clear hb3 hb4 hk3 hb4d hfi c0 c1
        by_cases hv0 : v = 0
        · subst hv0
          have HRK3 : Hid (R = if (((ks.map Kd.p).take k).map (·.1)).any (fun o => decide (o = fn)) then 5 else chkF ((ks.map Kd.p).take (k + 1)) ((ks.map Kd.p).drop (k + 1))) := Lib.hid (by rw [HRK2.out, if_neg (by simp)])
          have hnms : ((ks.map Kd.p).take k).map (·.1) = (ks.take k).map Kd.nm := by rw [← List.map_take, List.map_map]; rfl
          rw [hnms] at HRK3
          have HNN := Lib.hid (findF_nonneg (l := (ks.take k).map Kd.nm) (nm := fn))
          clear HRK2 hnms
          generalize hff : findF ((ks.take k).map Kd.nm) fn = ff at *
          go_wp2_with fail
          go_region_held3 (fun w' => w'.cell? ⟨wr.heap.size, 0, none⟩ = some (.string fn)) (first | (with_reducible exact s3) | (with_reducible exact s4) | go_keep)
            (first
              | (go_at_call 162
                 (with_reducible refine HFI.out.mono ?_)
                 rintro e w4 ⟨rfl, hb5⟩
                 have s4 : w4.cell? ⟨wr.heap.size, 0, none⟩ = some (.string fn) := (hb5.cell (p := ⟨wr.heap.size, 0, none⟩) HK3.out.lt).trans s3
                 have HB5 := Lib.hid hb5
                 clear hb5))
          have hb6 : Below w.heap.size w w4 := HB4.out.drew.trans (HB5.out.mono HB4.out.size)
          by_cases hff0 : 0 ≤ ff
          · go_wp2_with fail
            go_ret
            rw [HRK3.out, if_pos (HNN.out.1 hff0)]
            exact ⟨rfl, hb6⟩
          · have hffz : ff < 0 := by omega
            go_wp2_with fail
            go_roundg (n - (k + 1))
            case measure => omega
            case rel => exact ⟨k + 1, by omega, rfl, by go_num, Lib.hid (by rw [HRK3.out, if_neg (fun h => by have := HNN.out.2 h; omega)]), Lib.hid hb6⟩
        · have hvb : (v != 0) = true := by simp [hv0]
          go_wp2_with fail
          go_ret
          rw [HRK2.out, if_pos hv0]
          exact ⟨rfl, HB4.out⟩
      · obtain rfl : k = n := by omega
        go_wp2_with fail
        go_ret
        rw [HRK.out, List.drop_eq_nil_of_le (by rw [List.length_map, ← HN.out]; exact Nat.le_refl _)]
        exact ⟨rfl, HW.out⟩
end Go.Proofs.Ytnidcmhfbkdioaa
