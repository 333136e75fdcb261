/-
  The contracts of slices.Collect and slices.Sorted over slices.Values of a slice of ints. Conditions: the slice can be read, and has at most 1000000 elements.
-/
import Derived.Test.YtnidcmhfbkdioaaDy2
import Derived.Test.YtnidcmhfbkdioaaDyP
import Derived.Lib.SlKeysI
namespace Go.Proofs.Ytnidcmhfbkdioaa
open Go.RowKit Go.Shelf Go.Maps Go.Sort
set_option maxRecDepth 100000

theorem sort_own (zs : List Int) (hz : zs.length ≤ 1000000) (base : Nat) (v : Value) (w : World) (hown : w.ownsRow base 3 1 v zs.length (zs.map (Value.int .i64))) :
    Calls Try.prog 131 #[v] w fun e w' => e = .returned (.tuple #[]) ∧ w'.ownsRow base 3 1 v zs.length ((srt zs).map (Value.int .i64)) ∧ (base ≤ w.heap.size → Below base w w') := by
  rcases hown.2 with ⟨rfl, hz0⟩ | ⟨gb, cap, cur, rfl, hbase, hgb, r1, r2, r3, r4⟩
  · have hss : zs = [] := List.eq_nil_of_length_eq_zero hz0
    subst hss
    refine (AnyM.slices_Sort_int_none sortA none 0 w).mono ?_
    rintro e w' ⟨rfl, rfl⟩
    exact ⟨rfl, by simpa [srt] using hown, fun _ => Below.refl _ _⟩
  · have hH : Holds encZ w gb 0 zs.toArray := holds_of_block_i hgb (by simpa using r4)
    have hgl : gb < w.heap.size := (Array.getElem?_eq_some_iff.1 hgb).1
    refine (AnyM.slices_Sort_int sortA gb 0 cap zs w hH hgl (by omega)).mono ?_
    rintro e w' ⟨rfl, nn, os, rfl⟩
    exact ⟨rfl, ownsRow_sorted_i (by simp) hbase hgb r1 r2 r3, fun hb => (Below.refl _ _).grown (grownBy_sorted_i _) hb (fun j hj => by cases hj; exact hbase)⟩

def SortP (w : World) (zs : List Int) (e : Ending) (w' : World) : Prop := ∃ v, e = .returned v ∧ w'.ownsRow w.heap.size 3 1 v zs.length ((srt zs).map (Value.int .i64)) ∧ Below w.heap.size w w'

set_option maxHeartbeats 1000000 in
theorem sorted_in (Bs : Nat) (sv : Value) (zs : List Int) (hz : zs.length ≤ 1000000) (w : World) (hBs : Bs < w.heap.size) (hc : w.cell? ⟨Bs, 0, none⟩ = some sv) (hI : It.Ints w.heap.size w sv zs) :
    Calls Try.prog 52 #[.func (.func 132) #[] #[.pointer (some ⟨Bs, 0, none⟩)]] w (SortP w zs) := by
  have HA := Lib.hid (callsIn_wide.1 (appendSeq_in Fence.wide 4 trivial trivial rfl (by omega) Bs sv zs hz w hBs hc hI))
  clear hc hI
  have HC : Hid (Calls Try.prog 130 #[.func (.func 132) #[] #[.pointer (some ⟨Bs, 0, none⟩)]] w fun e W' => ∃ v, e = .returned v ∧ W'.ownsRow w.heap.size 3 1 v zs.length (zs.map (Value.int .i64)) ∧ Below w.heap.size w W') := by
    refine Lib.hid ?_
    go_enter Try.func130, Try.ntmps130
    go_wp2_with fail
    refine HA.out.mono ?_
    rintro e w1 ⟨v, rfl, hown, hb⟩
    have HO := Lib.hid hown
    clear hown
    go_wp2_with fail
    go_ret
    exact ⟨v, rfl, HO.out, hb⟩
  go_enter Try.func52, Try.ntmps52
  go_wp2_with fail
  refine HC.out.mono ?_
  rintro e w1 ⟨v, rfl, hown, hb⟩
  have HS := Lib.hid (sort_own zs hz w.heap.size v w1 hown)
  have HB := Lib.hid hb
  clear hown hb
  go_wp2_with fail
  refine HS.out.mono ?_
  rintro e w2 ⟨rfl, hown2, hb2⟩
  have HO2 := Lib.hid hown2
  have HB2 := Lib.hid (HB.out.trans (hb2 HB.out.size))
  clear hown2 hb2
  go_wp2_with fail
  go_ret
  exact ⟨v, rfl, HO2.out, HB2.out⟩

/-- slices.Sorted(slices.Values(s)): the call of Values first. -/
theorem values_any (A : Option Addr) (n c : Nat) (w : World) : Calls Try.prog 53 #[.slice A n c] w fun e w' => e = .returned (.func (.func 132) #[] #[.pointer (some ⟨w.heap.size, 0, none⟩)]) ∧ w' = w.alloc (.cells #[.slice A n c] 30) :=
  callsIn_wide.1 (It.values_in Fence.wide 1 trivial rfl A n c w)
theorem It.Ints.of_rd {w : World} {B n c : Nat} {A : Option Addr} {zs : List Int} (hr : Rd w B 1 A n (zs.map (Value.int .i64))) (h0 : 0 < n) : It.Ints B w (.slice A n c) zs := by
  obtain ⟨b, o, rfl, hb, hc⟩ := hr.2 h0
  have hl : zs.length = n := by have := hr.1; simp at this; omega
  refine .inr ⟨b, o, c, by rw [hl], hb, fun j hj => ?_⟩
  refine hc j _ ?_
  rw [List.getElem?_map, List.getElem?_eq_getElem hj]
  rfl
theorem sorted_lit (A : Option Addr) (n c : Nat) (zs : List Int) (hz : zs.length ≤ 1000000) (h0 : 0 < n) (B : Nat) (w : World) (hr : Rd w B 1 A n (zs.map (Value.int .i64))) (hB : B ≤ w.heap.size) :
    Calls Try.prog 52 #[.func (.func 132) #[] #[.pointer (some ⟨w.heap.size, 0, none⟩)]] (w.alloc (.cells #[.slice A n c] 30)) (SortP (w.alloc (.cells #[.slice A n c] 30)) zs) := by
  have hb := (Below.refl w.heap.size w).alloc (Nat.le_refl _) (.cells #[.slice A n c] 30)
  refine sorted_in w.heap.size (.slice A n c) zs hz _ (by simp) ?_ (It.Ints.of_rd ((hr.below (hb.mono hB)).more (by simp; omega)) h0)
  exact (Bk.new w 30 #[.slice A n c]).cell 0
end Go.Proofs.Ytnidcmhfbkdioaa
