/-
  The contracts of slices.Grow (from nothing) and slices.Concat of slices of ints. Conditions: what is read can be read; something to put together.
-/
import Derived.Lib.AppendZerosOnto
import Derived.Test.YtnidcmhfbkdioaaMg
namespace Go.Proofs.Ytnidcmhfbkdioaa
open Go.RowKit
set_option maxRecDepth 100000

theorem own_monoY {w : World} {base base' size n : Nat} {e : TypeId} {v : Value} {xs : List Value} (h : w.ownsRow base e size v n xs) (hb : base' ≤ base) : w.ownsRow base' e size v n xs := by
  refine ⟨h.1, ?_⟩
  rcases h.2 with h2 | ⟨g, cap, cur, h3, h4, h5⟩
  · exact .inl h2
  · exact .inr ⟨g, cap, cur, h3, Nat.le_trans hb h4, h5⟩
theorem T.info3Y : (Try.prog.info? 3).map (fun i => (i.zero, i.size, i.bytes)) = some (some (.int .i64 0), 1, 8) := by kernel_rfl

set_option maxHeartbeats 2000000 in
theorem grow_any (N : Nat) (w : World) (h1 : 1 ≤ N) (h2 : N ≤ 1000000) :
    Calls Try.prog 101 #[.slice none 0 0, .int .i64 N] w fun e w' => ∃ (g c : Nat), e = .returned (.slice (some ⟨g, 0, none⟩) 0 c) ∧ Hid (w'.ownsRow w.heap.size 3 1 (.slice (some ⟨g, 0, none⟩) 0 c) 0 []) ∧ Below w.heap.size w w' := by
  obtain ⟨i0, hi0, hz0, hs0, hb0⟩ := info_parts T.info3Y
  have hold : (Builtin.firstCells i0.size 0 (.slice none 0 0)).run Try.prog w.drew = .ok ([] : List Value).toArray w.drew := run_firstCells_none w.drew i0.size 0 0 0
  have hrz : ∀ ty, (Builtin.append_ #[30, 3] ty #[.slice none 0 0, .int .i64 (N : Int)]).run Try.prog w =
      .ok (.slice (some ⟨w.heap.size, 0, none⟩) N (grownCap w N 0 3)) (w.drew.alloc (.cells (Builtin.zeroCells (Value.int .i64 0).cells N ++ Builtin.zeroCells (Value.int .i64 0).cells (grownCap w N 0 3 - N)) 3)) := fun ty => by
    have h := Lib.run_append_grow_zeros w 30 3 ty 3 i0 (.int .i64 0) .i64 .i64 Try.underlying30 Try.underlying3 hi0 hz0 none 0 0 [] hold N (by omega) (by omega) (by omega) (by omega) (by rw [hb0]; omega) (growslice_fits (by omega) (by rw [hb0]; omega))
    simpa using h
  have hGn : N ≤ grownCap w N 0 3 := grownCap_ge w _ _ _
  have hGm : grownCap w N 0 3 ≤ maxLen := grownCap_le_maxLen w N 0 3 (by unfold maxLen; omega)
  obtain ⟨G, hG⟩ : ∃ G, G = grownCap w N 0 3 := ⟨_, rfl⟩
  rw [← hG] at hrz hGn hGm
  have hG63 : G ≤ 9223372036854775807 := by unfold maxLen at hGm; omega
  have h1z : ¬ ((N : Int) < 0) := by omega
  have h2z : (N : Int) > 0 := by omega
  have HPO : Hid ((w.drew.alloc (.cells (Builtin.zeroCells (Value.int .i64 0).cells N ++ Builtin.zeroCells (Value.int .i64 0).cells (G - N)) 3)).ownsRow w.heap.size 3 1 (.slice (some ⟨w.heap.size, 0, none⟩) 0 G) 0 [] ∧ Below w.heap.size w (w.drew.alloc (.cells (Builtin.zeroCells (Value.int .i64 0).cells N ++ Builtin.zeroCells (Value.int .i64 0).cells (G - N)) 3))) := Lib.hid
    ⟨⟨rfl, .inr ⟨_, G, _, rfl, Nat.le_refl _, heap_alloc_new w.drew _, Nat.zero_le _, hGm, by simp [Builtin.zeroCells, Value.cells]; omega, by simp⟩⟩, ((Below.refl _ _).drew).alloc (Nat.le_refl _) _⟩
  clear hold hG hi0 hz0 hs0 hb0
  go_enter Try.func101, Try.ntmps101
  go_wp2_with (at_builtin; refine Lib.wpList_append_run _ rfl _ _ _ _ rfl _ _ rfl rfl _ _ (hrz _) ?_)
  all_goals
    go_ret
    exact ⟨_, _, rfl, Lib.hid HPO.out.1, HPO.out.2⟩

/-- A slice of ints among others. -/
structure Sg where
  A : Option Addr
  n : Nat
  c : Nat
  xs : List Int
def sgCs (l : List Sg) : List Value := l.map fun x => .slice x.A x.n x.c
def catS (l : List Sg) : List Int := l.flatMap Sg.xs
structure SgOk (w : World) (B : Nat) (x : Sg) : Prop where
  rd : Rd w B 1 x.A x.n (x.xs.map (Value.int .i64))
  len : x.n = x.xs.length
  cap : x.n ≤ x.c
  cap2 : x.c ≤ 9223372036854775807
theorem SgOk.below {w w' : World} {B : Nat} {x : Sg} (h : SgOk w B x) (hb : Below B w w') : SgOk w' B x := ⟨h.rd.below hb, h.len, h.cap, h.cap2⟩
theorem catS_take {l : List Sg} {k : Nat} {x : Sg} (h : l[k]? = some x) : catS (l.take (k + 1)) = catS (l.take k) ++ x.xs := by
  rw [List.take_add_one, h]; simp [catS]
theorem catS_le (l : List Sg) (k : Nat) : (catS (l.take k)).length ≤ (catS l).length := by
  have h : catS l = catS (l.take k) ++ catS (l.drop k) := by
    conv => lhs; rw [← List.take_append_drop k l]
    unfold catS; rw [List.flatMap_append]
  rw [h, List.length_append]; omega

set_option maxHeartbeats 4000000 in
theorem concat_any {w : World} {B n c : Nat} {A : Option Addr} {l : List Sg} (hr : Rd w B 1 A n (sgCs l)) (hn : n = l.length) (hnc : n ≤ c) (hc : c ≤ 9223372036854775807) (hok : ∀ x ∈ l, SgOk w B x) (hB : B ≤ w.heap.size) (h1 : 1 ≤ (catS l).length) (h2 : (catS l).length ≤ 1000000) :
    Calls Try.prog 28 #[.slice A n c] w fun e w' => ∃ (A' : Option Addr) (c' : Nat), e = .returned (.slice A' (catS l).length c') ∧ Hid (w'.ownsRow w.heap.size 3 1 (.slice A' (catS l).length c') (catS l).length ((catS l).map (Value.int .i64))) ∧ Below w.heap.size w w' := by
  obtain ⟨N, hN⟩ : ∃ N, N = (catS l).length := ⟨_, rfl⟩
  rw [← hN] at h1 h2 ⊢
  have HN := Lib.hid hN
  have HR := Lib.hid hr
  have HL := Lib.hid hn
  have HO := Lib.hid hok
  have HG := Lib.hid (fun wx => grow_any N wx h1 h2)
  clear hN hr hn hok
  go_enter Try.func28, Try.ntmps28
  go_wp2_with fail
  go_loopw [3, 11] (fun sv iv wr => ∃ (k t : Nat), k ≤ n ∧ iv = .int .i64 k ∧ sv = .int .i64 t ∧ t ≤ N ∧ Hid (t = (catS (l.take k)).length) ∧ Hid (Below w.heap.size w wr)) (fun _ iv _ => n - (intOf iv).toNat)
  case atStart => exact ⟨0, 0, Nat.zero_le _, rfl, rfl, Nat.zero_le _, Lib.hid rfl, Lib.hid (Below.refl _ _)⟩
  case round =>
    obtain ⟨k, t, hk, rfl, rfl, htN, HT, HW⟩ := hrel
    by_cases hlt : k < n
    · obtain ⟨x, hx⟩ : ∃ x, l[k]? = some x := ⟨_, List.getElem?_eq_getElem (by have := HL.out; omega)⟩
      have hgx : (sgCs l)[k]? = some (.slice x.A x.n x.c) := by unfold sgCs; rw [List.getElem?_map, hx]; rfl
      obtain ⟨b, o, rfl, hbb, q0⟩ := (HR.out.below (HW.out.mono hB)).at1 hlt hgx
      have hxo := HO.out x (List.mem_of_getElem? hx)
      have hxc := hxo.cap
      have hxc2 := hxo.cap2
      have ht2 : t + x.n = (catS (l.take (k + 1))).length := by rw [catS_take hx, List.length_append, ← HT.out, hxo.len]
      have htN2 : t + x.n ≤ N := by rw [ht2, HN.out]; exact catS_le l (k + 1)
      have HT2 := Lib.hid ht2
      have hkz : (k : Int) < n := by omega
      have hkz0 : (0 : Int) ≤ k := by omega
      have hneg : ¬ ((t : Int) + x.n < 0) := by omega
      clear hx hgx hxo ht2 hbb
      generalize x.A = xA at *
      generalize x.n = xn at *
      generalize x.c = xc at *
      go_wp2_with fail
      go_roundw
      case measure => simp [intOf]; omega
      case rel => exact ⟨k + 1, t + xn, by omega, by go_num, by go_num, htN2, HT2, HW⟩
    · obtain rfl : k = n := by omega
      have htn : t = N := by rw [HT.out, HN.out, List.take_of_length_le (by rw [← HL.out]; exact Nat.le_refl _)]
      subst htn
      clear HT
      go_wp2_with fail
      (with_reducible refine (HG.out _).mono ?_)
      rintro e w2 ⟨g, gc, rfl, HO2, hb2⟩
      have HB2 : Hid (Below w.heap.size w w2) := Lib.hid (HW.out.trans (hb2.mono HW.out.size))
      have HO3 : Hid (w2.ownsRow w.heap.size 3 1 (.slice (some ⟨g, 0, none⟩) 0 gc) 0 []) := Lib.hid (own_monoY HO2.out HW.out.size)
      clear HO2 hb2 HW
      obtain ⟨i0, hi0, hz0, hs0, hb0⟩ := info_parts T.info3Y
      go_wp2_with fail
      go_loopw [6, 27] (fun sv iv wr => ∃ (j m c1 : Nat) (A1 : Option Addr), j ≤ k ∧ iv = .int .i64 j ∧ sv = .slice A1 m c1 ∧ m ≤ t ∧ Hid (m = (catS (l.take j)).length ∧ wr.ownsRow w.heap.size 3 1 (.slice A1 m c1) m ((catS (l.take j)).map (Value.int .i64))) ∧ Hid (Below w.heap.size w wr)) (fun _ iv _ => k - (intOf iv).toNat)
      case atStart => exact ⟨0, 0, gc, some ⟨g, 0, none⟩, Nat.zero_le _, rfl, rfl, Nat.zero_le _, Lib.hid ⟨rfl, HO3.out⟩, HB2⟩
      case round =>
        clear HO3 HB2
        obtain ⟨j, m, c1, A1, hj, rfl, rfl, hmt, HM, HW⟩ := hrel
        by_cases hlt : j < k
        · obtain ⟨x, hx⟩ : ∃ x, l[j]? = some x := ⟨_, List.getElem?_eq_getElem (by have := HL.out; omega)⟩
          have hgx : (sgCs l)[j]? = some (.slice x.A x.n x.c) := by unfold sgCs; rw [List.getElem?_map, hx]; rfl
          obtain ⟨b, o, rfl, hbb, q0⟩ := (HR.out.below (HW.out.mono hB)).at1 hlt hgx
          have hxo := (HO.out x (List.mem_of_getElem? hx)).below (HW.out.mono hB)
          have hxc := hxo.cap
          have hxc2 := hxo.cap2
          have hm2 : m + x.n = (catS (l.take (j + 1))).length := by rw [catS_take hx, List.length_append, ← HM.out.1, hxo.len]
          have hmN2 : m + x.n ≤ t := by rw [hm2, HN.out]; exact catS_le l (j + 1)
          have HM2 := Lib.hid (And.intro hm2 (catS_take hx))
          have HRX := Lib.hid hxo.rd
          have hkz : (j : Int) < k := by omega
          have hkz0 : (0 : Int) ≤ j := by omega
          have hwr : w.heap.size ≤ wr.heap.size := HW.out.size
          clear hx hgx hxo hm2 hbb
          generalize hxs : x.xs = xs at *
          clear hxs
          generalize x.A = xA at *
          generalize x.n = xn at *
          generalize x.c = xc at *
          go_wp2_with
            (at_builtin
             go_must (refine wpList_append_rd _ rfl (.tmp 31) (.tmp 32) _ rfl w.heap.size 3 i0 (.int .i64 0) 1 8 Try.underlying30 hi0 hz0 hs0 hb0 rfl (by decide) (.slice A1 m c1) m ((catS (l.take j)).map (Value.int .i64)) rfl HM.out.2 B xA xn xc (xs.map (Value.int .i64)) rfl HRX.out ?c1 ?c2 ?c3 hwr ?_)
             case c1 => (intro u hu; obtain ⟨z, _, rfl⟩ := List.mem_map.1 hu; rfl)
             case c2 => unfold maxLen; omega
             case c3 => omega
             intro A8 c8 w8 hown8 hg8 _)
          have HM8 : Hid (m + xn = (catS (l.take (j + 1))).length ∧ w8.ownsRow w.heap.size 3 1 (.slice A8 (m + xn) c8) (m + xn) ((catS (l.take (j + 1))).map (Value.int .i64))) := Lib.hid ⟨HM2.out.1, by rw [HM2.out.2, List.map_append]; exact hown8⟩
          have HB8 : Hid (Below w.heap.size w w8) := Lib.hid (HW.out.trans ⟨hg8.os, hg8.tape, hg8.output, hg8.size, fun q hq => hg8.block q (by omega) (fun e => by have := (HM.out.2.lt q e.symm).1; omega)⟩)
          clear hown8 hg8
          go_wp2_with fail
          go_roundw
          case measure => simp [intOf]; omega
          case rel => exact ⟨j + 1, m + xn, c8, A8, by omega, by go_num, rfl, hmN2, HM8, HB8⟩
        · obtain rfl : j = k := by omega
          have hmn : m = t := by rw [HM.out.1, HN.out, List.take_of_length_le (by rw [← HL.out]; exact Nat.le_refl _)]
          subst hmn
          have HE : Hid (wr.ownsRow w.heap.size 3 1 (.slice A1 m c1) m ((catS l).map (Value.int .i64))) := Lib.hid (by have h := HM.out.2; rw [List.take_of_length_le (by rw [← HL.out]; exact Nat.le_refl _)] at h; exact h)
          clear HM
          go_wp2_with fail
          go_ret
          exact ⟨A1, c1, rfl, HE, HW.out⟩
end Go.Proofs.Ytnidcmhfbkdioaa
