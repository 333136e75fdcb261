/-
  The contract of bridge.find. Conditions: what is read can be read.
-/
import Derived.Test.YtnidcmhfbkdioaaKf
namespace Go.Proofs.Ytnidcmhfbkdioaa
open Go.RowKit
set_option maxRecDepth 100000

def bfindF (ks : List (ByteArray × List Fd)) (nm : ByteArray) (ns : List ByteArray) : Int × Int :=
  if findF (ks.map (·.1)) nm < 0 then (-1, 0) else
  match ks[(findF (ks.map (·.1)) nm).toNat]? with
  | some k => if k.2.map Fd.nm = ns then (findF (ks.map (·.1)) nm, 0) else (-1, 8)
  | none => (-1, 8)
theorem kdp_nm (ks : List Kd) : (ks.map Kd.p).map (·.1) = ks.map Kd.nm := by rw [List.map_map]; rfl
theorem findF_range (l : List ByteArray) (nm : ByteArray) : findF l nm = -1 ∨ ∃ i : Nat, findF l nm = i ∧ i < l.length := by
  unfold findF
  cases h : l.findIdx? (fun x => decide (x = nm)) with
  | some i => exact .inr ⟨i, rfl, (List.findIdx?_eq_some_iff_getElem.1 h).1⟩
  | none => exact .inl rfl

set_option maxHeartbeats 1600000 in
theorem bfind_any (A SA : Option Addr) (n c m sc B : Nat) (ks : List Kd) (nm : ByteArray) (ns : List ByteArray) (w : World) (hr : Rd w B 2 A n (kdCs ks)) (hn : n = ks.length) (hc : n ≤ c) (hc2 : c ≤ 9223372036854775807) (hks : ∀ k ∈ ks, KdOk w B k)
    (hs : Rd w B 1 SA m (strV ns)) (hm : m = ns.length) (hB : B ≤ w.heap.size) :
    Calls Try.prog 95 #[.slice A n c, .string nm, .slice SA m sc] w fun e w' => e = .returned (.tuple #[.int .i64 (bfindF (ks.map Kd.p) nm ns).1, .int .i64 (bfindF (ks.map Kd.p) nm ns).2]) ∧ Below w.heap.size w w' := by
  obtain ⟨R, hR⟩ : ∃ R, R = bfindF (ks.map Kd.p) nm ns := ⟨_, rfl⟩
  rw [← hR]
  obtain ⟨w1, hw1⟩ : ∃ w1, w1 = w.alloc (.cells #[.string nm] 9) := ⟨_, rfl⟩
  have hb1 : Below w.heap.size w w1 := by rw [hw1]; exact (Below.refl _ w).alloc (Nat.le_refl _) _
  have hbk : Bk w1 w.heap.size 9 #[.string nm] := by rw [hw1]; exact Bk.new _ _ _
  have hix := indexK_any A n c B w.heap.size ks nm w1 (hr.below (hb1.mono hB)) hn hc hc2 (Nat.le_trans hB hb1.size) (hbk.cell 0) hbk.lt
  have HIX := Lib.hid hix
  have HB1 := Lib.hid hb1
  have HR := Lib.hid hR
  have HN := Lib.hid hn
  have HM := Lib.hid hm
  have HRD := Lib.hid hr
  have HSD := Lib.hid hs
  have HKS := Lib.hid hks
  have HBB := Lib.hid hB
  have HW1 := Lib.hid hw1
  clear hr hn hR hB hks hs hm hb1 hbk hix
  go_enter Try.func95, Try.ntmps95
  go_wp2_with fail
  rw [← hw1]
  clear hw1
  refine HIX.out.mono ?_
  rintro e w2 ⟨rfl, hb2⟩
  have HB2 := Lib.hid (HB1.out.trans (hb2.mono HB1.out.size))
  clear hb2 HIX
  rcases findF_range (ks.map Kd.nm) nm with hf | ⟨i, hf, hi⟩
  · rw [hf]
    go_wp2_with fail
    go_ret2
    rw [HR.out, bfindF, kdp_nm, if_pos (by rw [hf]; decide)]
    exact ⟨rfl, HB2.out⟩
  · rw [hf]
    rw [List.length_map, ← HN.out] at hi
    obtain ⟨f, hfk⟩ : ∃ f, ks[i]? = some f := ⟨_, List.getElem?_eq_getElem (by have := HN.out; omega)⟩
    have hrw : Rd w2 B 2 A n (kdCs ks) := HRD.out.below (HB2.out.mono HBB.out)
    obtain ⟨b, o, hA, hbB, c0, c1⟩ := hrw.kd hi hfk
    subst hA
    have hfo := (HKS.out f (List.mem_of_getElem? hfk)).below (HB2.out.mono HBB.out)
    have heq := equalFN_any f.A SA f.n f.c m sc B f.fds ns w2 hfo.rd hfo.len (by have := hfo.cap; have := hfo.cap2; omega) (HSD.out.below (HB2.out.mono HBB.out)) HM.out (Nat.le_trans HBB.out HB2.out.size)
    have HEQ := Lib.hid heq
    have hR2 : R = if f.fds.map Fd.nm = ns then ((i : Int), 0) else (-1, 8) := by
      rw [HR.out, bfindF, kdp_nm, if_neg (by rw [hf]; omega), hf, Int.toNat_natCast, List.getElem?_map, hfk]
      rfl
    have HR2 := Lib.hid hR2
    have hiz : (i : Int) < n := by omega
    have hiz0 : (0 : Int) ≤ i := by omega
    have hizn : ¬ (i : Int) < 0 := by omega
    clear hfo heq hR2 hrw hfk hf HR
    generalize f.nm = fn at *
    generalize f.A = fA at *
    generalize f.n = fl at *
    generalize f.c = fc at *
    go_wp2_with fail
    refine HEQ.out.mono ?_
    rintro e w3 ⟨rfl, hb3⟩
    have HB3 := Lib.hid (HB2.out.trans (hb3.mono HB2.out.size))
    clear hb3
    by_cases he : f.fds.map Fd.nm = ns
    · rw [decide_eq_true he]
      go_wp2_with fail
      go_ret2
      rw [HR2.out, if_pos he]
      exact ⟨rfl, HB3.out⟩
    · rw [decide_eq_false he]
      go_wp2_with fail
      go_ret2
      rw [HR2.out, if_neg he]
      exact ⟨rfl, HB3.out⟩
end Go.Proofs.Ytnidcmhfbkdioaa
