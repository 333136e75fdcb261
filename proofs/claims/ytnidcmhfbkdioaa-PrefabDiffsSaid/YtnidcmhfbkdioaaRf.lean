/-
  slices.Concat; Kinds; the fact on templates; the walks of PrefabCounts and PrefabBack. Conditions: numbers and replacements that can be read.
-/
import Derived.Lib.AppendZerosOnto
import Derived.Test.YtnidcmhfbkdioaaMg
import Derived.Test.YtnidcmhfbkdioaaRd
import Derived.Test.YtnidcmhfbkdioaaPn
import Derived.Test.YtnidcmhfbkdioaaRc
namespace Go.Proofs.Ytnidcmhfbkdioaa
open Go.RowKit
set_option maxRecDepth 100000

/-! ### Py -/
theorem own_monoY {w : World} {base base' size n : Nat} {e : TypeId} {v : Value} {xs : List Value} (h : w.ownsRow base e size v n xs) (hb : base' ≤ base) : w.ownsRow base' e size v n xs := by
  refine ⟨h.1, ?_⟩
  rcases h.2 with h2 | ⟨g, cap, cur, h3, h4, h5⟩
  · exact .inl h2
  · exact .inr ⟨g, cap, cur, h3, Nat.le_trans hb h4, h5⟩
theorem T.info3Y : (Try.prog.info? 3).map (fun i => (i.zero, i.size, i.bytes)) = some (some (.int .i64 0), 1, 8) := by kernel_rfl

set_option maxHeartbeats 2000000 in
theorem grow_any (N : Nat) (w : World) (h1 : 1 ≤ N) (h2 : N ≤ 1000000) :
    Calls Try.prog 101 #[.slice none 0 0, .int .i64 N] w fun e w' => ∃ (g c : Nat), e = .returned (.slice (some ⟨g, 0, none⟩) 0 c) ∧ Hid (w'.ownsRow w.heap.size 3 1 (.slice (some ⟨g, 0, none⟩) 0 c) 0 []) ∧ Below w.heap.size w w' := by
  obtain ⟨i0, hi0, hz0, hs0, hb0⟩ := info_parts T.info3Y
  have hold : (Builtin.firstCells i0.size 0 (.slice none 0 0)).run Try.prog w.drew = .ok ([] : List Value).toArray w.drew := run_firstCells_none w.drew i0.size 0 0 0
  have hrz : ∀ ty, (Builtin.append_ #[30, 3] ty #[.slice none 0 0, .int .i64 (N : Int)]).run Try.prog w =
      .ok (.slice (some ⟨w.heap.size, 0, none⟩) N (grownCap w N 0 3)) (w.drew.alloc (.cells (Builtin.zeroCells (Value.int .i64 0).cells N ++ Builtin.zeroCells (Value.int .i64 0).cells (grownCap w N 0 3 - N)) 3)) := fun ty => by
    have h := Lib.run_append_grow_zeros w 30 3 ty 3 i0 (.int .i64 0) .i64 .i64 Try.underlying30 Try.underlying3 hi0 hz0 none 0 0 [] hold N (by omega) (by omega) (by omega) (by omega) (by rw [hb0]; omega) (growslice_fits (by omega) (by rw [hb0]; omega))
    simpa using h
  have hGn : N ≤ grownCap w N 0 3 := grownCap_ge w _ _ _
  have hGm : grownCap w N 0 3 ≤ maxLen := grownCap_le_maxLen w N 0 3 (by unfold maxLen; omega)
  obtain ⟨G, hG⟩ : ∃ G, G = grownCap w N 0 3 := ⟨_, rfl⟩
  rw [← hG] at hrz hGn hGm
  have hG63 : G ≤ 9223372036854775807 := by unfold maxLen at hGm; omega
  have h1z : ¬ ((N : Int) < 0) := by omega
  have h2z : (N : Int) > 0 := by omega
  have HPO : Hid ((w.drew.alloc (.cells (Builtin.zeroCells (Value.int .i64 0).cells N ++ Builtin.zeroCells (Value.int .i64 0).cells (G - N)) 3)).ownsRow w.heap.size 3 1 (.slice (some ⟨w.heap.size, 0, none⟩) 0 G) 0 [] ∧ Below w.heap.size w (w.drew.alloc (.cells (Builtin.zeroCells (Value.int .i64 0).cells N ++ Builtin.zeroCells (Value.int .i64 0).cells (G - N)) 3))) := Lib.hid
    ⟨⟨rfl, .inr ⟨_, G, _, rfl, Nat.le_refl _, heap_alloc_new w.drew _, Nat.zero_le _, hGm, by simp [Builtin.zeroCells, Value.cells]; omega, by simp⟩⟩, ((Below.refl _ _).drew).alloc (Nat.le_refl _) _⟩
  clear hold hG hi0 hz0 hs0 hb0
  go_enter Try.func101, Try.ntmps101
  go_wp2_with (at_builtin; refine Lib.wpList_append_run _ rfl _ _ _ _ rfl _ _ rfl rfl _ _ (hrz _) ?_)
  all_goals
    go_ret
    exact ⟨_, _, rfl, Lib.hid HPO.out.1, HPO.out.2⟩

/-- A slice of ints among others. -/
structure Sg where
  A : Option Addr
  n : Nat
  c : Nat
  xs : List Int
def sgCs (l : List Sg) : List Value := l.map fun x => .slice x.A x.n x.c
def catS (l : List Sg) : List Int := l.flatMap Sg.xs
structure SgOk (w : World) (B : Nat) (x : Sg) : Prop where
  rd : Rd w B 1 x.A x.n (x.xs.map (Value.int .i64))
  len : x.n = x.xs.length
  cap : x.n ≤ x.c
  cap2 : x.c ≤ 9223372036854775807
theorem SgOk.below {w w' : World} {B : Nat} {x : Sg} (h : SgOk w B x) (hb : Below B w w') : SgOk w' B x := ⟨h.rd.below hb, h.len, h.cap, h.cap2⟩
theorem catS_take {l : List Sg} {k : Nat} {x : Sg} (h : l[k]? = some x) : catS (l.take (k + 1)) = catS (l.take k) ++ x.xs := by
  rw [List.take_add_one, h]; simp [catS]
theorem catS_le (l : List Sg) (k : Nat) : (catS (l.take k)).length ≤ (catS l).length := by
  have h : catS l = catS (l.take k) ++ catS (l.drop k) := by
    conv => lhs; rw [← List.take_append_drop k l]
    unfold catS; rw [List.flatMap_append]
  rw [h, List.length_append]; omega

set_option maxHeartbeats 4000000 in
theorem concat_any {w : World} {B n c : Nat} {A : Option Addr} {l : List Sg} (hr : Rd w B 1 A n (sgCs l)) (hn : n = l.length) (hnc : n ≤ c) (hc : c ≤ 9223372036854775807) (hok : ∀ x ∈ l, SgOk w B x) (hB : B ≤ w.heap.size) (h1 : 1 ≤ (catS l).length) (h2 : (catS l).length ≤ 1000000) :
    Calls Try.prog 28 #[.slice A n c] w fun e w' => ∃ (A' : Option Addr) (c' : Nat), e = .returned (.slice A' (catS l).length c') ∧ Hid (w'.ownsRow w.heap.size 3 1 (.slice A' (catS l).length c') (catS l).length ((catS l).map (Value.int .i64))) ∧ Below w.heap.size w w' := by
  obtain ⟨N, hN⟩ : ∃ N, N = (catS l).length := ⟨_, rfl⟩
  rw [← hN] at h1 h2 ⊢
  have HN := Lib.hid hN
  have HR := Lib.hid hr
  have HL := Lib.hid hn
  have HO := Lib.hid hok
  have HG := Lib.hid (fun wx => grow_any N wx h1 h2)
  clear hN hr hn hok
  go_enter Try.func28, Try.ntmps28
  go_wp2_with fail
  go_loopw [3, 11] (fun sv iv wr => ∃ (k t : Nat), k ≤ n ∧ iv = .int .i64 k ∧ sv = .int .i64 t ∧ t ≤ N ∧ Hid (t = (catS (l.take k)).length) ∧ Hid (Below w.heap.size w wr)) (fun _ iv _ => n - (intOf iv).toNat)
  case atStart => exact ⟨0, 0, Nat.zero_le _, rfl, rfl, Nat.zero_le _, Lib.hid rfl, Lib.hid (Below.refl _ _)⟩
  case round =>
    obtain ⟨k, t, hk, rfl, rfl, htN, HT, HW⟩ := hrel
    by_cases hlt : k < n
    · obtain ⟨x, hx⟩ : ∃ x, l[k]? = some x := ⟨_, List.getElem?_eq_getElem (by have := HL.out; omega)⟩
      have hgx : (sgCs l)[k]? = some (.slice x.A x.n x.c) := by unfold sgCs; rw [List.getElem?_map, hx]; rfl
      obtain ⟨b, o, rfl, hbb, q0⟩ := (HR.out.below (HW.out.mono hB)).at1 hlt hgx
      have hxo := HO.out x (List.mem_of_getElem? hx)
      have hxc := hxo.cap
      have hxc2 := hxo.cap2
      have ht2 : t + x.n = (catS (l.take (k + 1))).length := by rw [catS_take hx, List.length_append, ← HT.out, hxo.len]
      have htN2 : t + x.n ≤ N := by rw [ht2, HN.out]; exact catS_le l (k + 1)
      have HT2 := Lib.hid ht2
      have hkz : (k : Int) < n := by omega
      have hkz0 : (0 : Int) ≤ k := by omega
      have hneg : ¬ ((t : Int) + x.n < 0) := by omega
      clear hx hgx hxo ht2 hbb
      generalize x.A = xA at *
      generalize x.n = xn at *
      generalize x.c = xc at *
      go_wp2_with fail
      go_roundw
      case measure => simp [intOf]; omega
      case rel => exact ⟨k + 1, t + xn, by omega, by go_num, by go_num, htN2, HT2, HW⟩
    · obtain rfl : k = n := by omega
      have htn : t = N := by rw [HT.out, HN.out, List.take_of_length_le (by rw [← HL.out]; exact Nat.le_refl _)]
      subst htn
      clear HT
      go_wp2_with fail
      (with_reducible refine (HG.out _).mono ?_)
      rintro e w2 ⟨g, gc, rfl, HO2, hb2⟩
      have HB2 : Hid (Below w.heap.size w w2) := Lib.hid (HW.out.trans (hb2.mono HW.out.size))
      have HO3 : Hid (w2.ownsRow w.heap.size 3 1 (.slice (some ⟨g, 0, none⟩) 0 gc) 0 []) := Lib.hid (own_monoY HO2.out HW.out.size)
      clear HO2 hb2 HW
      obtain ⟨i0, hi0, hz0, hs0, hb0⟩ := info_parts T.info3Y
      go_wp2_with fail
      go_loopw [6, 27] (fun sv iv wr => ∃ (j m c1 : Nat) (A1 : Option Addr), j ≤ k ∧ iv = .int .i64 j ∧ sv = .slice A1 m c1 ∧ m ≤ t ∧ Hid (m = (catS (l.take j)).length ∧ wr.ownsRow w.heap.size 3 1 (.slice A1 m c1) m ((catS (l.take j)).map (Value.int .i64))) ∧ Hid (Below w.heap.size w wr)) (fun _ iv _ => k - (intOf iv).toNat)
      case atStart => exact ⟨0, 0, gc, some ⟨g, 0, none⟩, Nat.zero_le _, rfl, rfl, Nat.zero_le _, Lib.hid ⟨rfl, HO3.out⟩, HB2⟩
      case round =>
        clear HO3 HB2
        obtain ⟨j, m, c1, A1, hj, rfl, rfl, hmt, HM, HW⟩ := hrel
        by_cases hlt : j < k
        · obtain ⟨x, hx⟩ : ∃ x, l[j]? = some x := ⟨_, List.getElem?_eq_getElem (by have := HL.out; omega)⟩
          have hgx : (sgCs l)[j]? = some (.slice x.A x.n x.c) := by unfold sgCs; rw [List.getElem?_map, hx]; rfl
          obtain ⟨b, o, rfl, hbb, q0⟩ := (HR.out.below (HW.out.mono hB)).at1 hlt hgx
          have hxo := (HO.out x (List.mem_of_getElem? hx)).below (HW.out.mono hB)
          have hxc := hxo.cap
          have hxc2 := hxo.cap2
          have hm2 : m + x.n = (catS (l.take (j + 1))).length := by rw [catS_take hx, List.length_append, ← HM.out.1, hxo.len]
          have hmN2 : m + x.n ≤ t := by rw [hm2, HN.out]; exact catS_le l (j + 1)
          have HM2 := Lib.hid (And.intro hm2 (catS_take hx))
          have HRX := Lib.hid hxo.rd
          have hkz : (j : Int) < k := by omega
          have hkz0 : (0 : Int) ≤ j := by omega
          have hwr : w.heap.size ≤ wr.heap.size := HW.out.size
          clear hx hgx hxo hm2 hbb
          generalize hxs : x.xs = xs at *
          clear hxs
          generalize x.A = xA at *
          generalize x.n = xn at *
          generalize x.c = xc at *
          go_wp2_with
            (at_builtin
             go_must (refine wpList_append_rd _ rfl (.tmp 31) (.tmp 32) _ rfl w.heap.size 3 i0 (.int .i64 0) 1 8 Try.underlying30 hi0 hz0 hs0 hb0 rfl (by decide) (.slice A1 m c1) m ((catS (l.take j)).map (Value.int .i64)) rfl HM.out.2 B xA xn xc (xs.map (Value.int .i64)) rfl HRX.out ?c1 ?c2 ?c3 hwr ?_)
             case c1 => (intro u hu; obtain ⟨z, _, rfl⟩ := List.mem_map.1 hu; rfl)
             case c2 => unfold maxLen; omega
             case c3 => omega
             intro A8 c8 w8 hown8 hg8 _)
          have HM8 : Hid (m + xn = (catS (l.take (j + 1))).length ∧ w8.ownsRow w.heap.size 3 1 (.slice A8 (m + xn) c8) (m + xn) ((catS (l.take (j + 1))).map (Value.int .i64))) := Lib.hid ⟨HM2.out.1, by rw [HM2.out.2, List.map_append]; exact hown8⟩
          have HB8 : Hid (Below w.heap.size w w8) := Lib.hid (HW.out.trans ⟨hg8.os, hg8.tape, hg8.output, hg8.size, fun q hq => hg8.block q (by omega) (fun e => by have := (HM.out.2.lt q e.symm).1; omega)⟩)
          clear hown8 hg8
          go_wp2_with fail
          go_roundw
          case measure => simp [intOf]; omega
          case rel => exact ⟨j + 1, m + xn, c8, A8, by omega, by go_num, rfl, hmN2, HM8, HB8⟩
        · obtain rfl : j = k := by omega
          have hmn : m = t := by rw [HM.out.1, HN.out, List.take_of_length_le (by rw [← HL.out]; exact Nat.le_refl _)]
          subst hmn
          have HE : Hid (wr.ownsRow w.heap.size 3 1 (.slice A1 m c1) m ((catS l).map (Value.int .i64))) := Lib.hid (by have h := HM.out.2; rw [List.take_of_length_le (by rw [← HL.out]; exact Nat.le_refl _)] at h; exact h)
          clear HM
          go_wp2_with fail
          go_ret
          exact ⟨A1, c1, rfl, HE, HW.out⟩

/-! ### Qk -/
theorem res_c1 {fn : Func} {p : Tmp} {ty : TypeId} (h : fn.results = #[.cell p ty]) (tmps : Array Value) (P : Program) (w : World) :
    (results fn tmps).run P w = ((asAddr (tmps.getD p undef)).run P w).andThen fun a w₁ => (loadVar ty a).run P w₁ := by
  simp only [results, h]
  simp [Sem.run_bind, Result.andThen]

set_option maxHeartbeats 800000 in
theorem mkField_any (nm : ByteArray) (b l : Int) (w : World) : Calls Try.prog 167 #[.string nm, .int .i64 b, .int .i64 l] w fun e w' => e = .returned (.agg #[.string nm, .int .i64 b, .int .i64 l]) ∧ Below w.heap.size w w' := by
  have hk := Bk.new w 66 #[.string ByteArray.empty, .int .i64 0, .int .i64 0]
  have q0 := hk.cell 0
  have q1 := hk.cell 1
  have q2 := hk.cell 2
  have g0 := hk.frozen 0
  have g1 := hk.frozen 1
  have g2 := hk.frozen 2
  simp only [List.getElem?_toArray, List.getElem?_cons_zero, List.getElem?_cons_succ] at q0 q1 q2
  clear hk
  go_enter Try.func167, Try.ntmps167
  go_wp2_with fail
  (try simp only [Exit.inBlock, Exit.then])
  refine bodyPost_ret (v := .agg #[.string nm, .int .i64 b, .int .i64 l]) ?_ rfl ⟨rfl, ?_⟩
  · rw [res_c1 rfl]
    go_simp
  · exact (Below.refl _ w).alloc (Nat.le_refl _) _

theorem and01 : (bits BinOp.and IntKind.i64 0 1 == 1) = false := by decide +kernel
theorem and02 : (bits BinOp.and IntKind.i64 0 2 == 2) = false := by decide +kernel
theorem and04 : (bits BinOp.and IntKind.i64 0 4 == 4) = false := by decide +kernel
def k0f : List Fd := [⟨⟨#[120]⟩, 8, (-100)⟩, ⟨⟨#[121]⟩, 8, (-100)⟩]
def k0n : ByteArray := ⟨#[115, 112, 111, 116]⟩

set_option maxHeartbeats 1600000 in
theorem kinds0_any (w : World) : Calls Try.prog 96 #[.int .i64 0] w fun e w' => ∃ g ks, e = .returned (.slice (some ⟨g, 0, none⟩) 1 1) ∧ Hid (KsY w' 0 (some ⟨g, 0, none⟩) 1 1 ks ∧ ks.map Kd.p = [(k0n, k0f)]) ∧ Below w.heap.size w w' := by
  have HF := Lib.hid mkField_any
  have t1 := and01
  have t2 := and02
  have t3 := and04
  go_enter Try.func96, Try.ntmps96
  go_wp2_with fail
  refine (HF.out ⟨#[120]⟩ 8 (-100) _).mono ?_
  rintro e w1 ⟨rfl, hb1⟩
  have HB1 := Lib.hid hb1
  clear hb1
  go_wp2_with fail
  refine (HF.out ⟨#[121]⟩ 8 (-100) _).mono ?_
  rintro e w2 ⟨rfl, hb2⟩
  have HB2 := Lib.hid (HB1.out.trans (hb2.mono HB1.out.size))
  clear hb2 HB1
  go_wp2_with fail
  go_ret
  have hk1 : Bk ((w2.alloc (.cells #[.string ⟨#[120]⟩, .int .i64 8, .int .i64 (-100), .string ⟨#[121]⟩, .int .i64 8, .int .i64 (-100)] 66)).alloc (.cells #[.string ⟨#[115, 112, 111, 116]⟩, .slice (some ⟨w2.heap.size, 0, none⟩) 2 2] 63)) w2.heap.size 66 (fdCs k0f).toArray := (Bk.new _ _ _).alloc _
  have hk2 : Bk ((w2.alloc (.cells #[.string ⟨#[120]⟩, .int .i64 8, .int .i64 (-100), .string ⟨#[121]⟩, .int .i64 8, .int .i64 (-100)] 66)).alloc (.cells #[.string ⟨#[115, 112, 111, 116]⟩, .slice (some ⟨w2.heap.size, 0, none⟩) 2 2] 63)) (w2.heap.size + 1) 63 (kdCs [⟨k0n, some ⟨w2.heap.size, 0, none⟩, 2, 2, k0f⟩]).toArray := Bk.two _ _ _ _
  refine ⟨w2.heap.size + 1, [⟨k0n, some ⟨w2.heap.size, 0, none⟩, 2, 2, k0f⟩], rfl, Lib.hid ⟨⟨.of_bk hk2 rfl (fun j u hu => by simpa using hu), rfl, Nat.le_refl _, by omega, fun k hk => ?_⟩, rfl⟩, ?_⟩
  · rw [List.mem_singleton.1 hk]
    exact ⟨.of_bk hk1 rfl (fun j u hu => by simpa using hu), rfl, Nat.le_refl _, by show (2 : Nat) ≤ _; omega⟩
  · exact (HB2.out.alloc HB2.out.size _).alloc (by have := HB2.out.size; simp; omega) _


theorem k0_ck : checkF [(k0n, k0f)] = 0 := by decide +kernel
theorem k0_comp : pcompF [(k0n, k0f)] none [(0, [1, 2])] = 0 := by decide +kernel
theorem k0_build : buildF [(k0n, k0f)] [([(0, [1, 2])], [])] 20 ((0 : Nat) : Int) [] = (0, [([], [(0, [1, 2])])]) := by decide +kernel
theorem one_of_map {α β : Type} {f : α → β} {l : List α} {b : β} (h : l.map f = [b]) : ∃ a, l = [a] ∧ f a = b := by
  cases l with
  | nil => simp at h
  | cons a r =>
    cases r with
    | nil => exact ⟨a, rfl, by simpa using h⟩
    | cons c r => simp at h

set_option maxHeartbeats 1600000 in
theorem builds_any (w : World) : Calls Try.prog 26 #[] w fun e w' => e = .returned (.bool true) ∧ Below w.heap.size w w' := by
  have HK := Lib.hid kinds0_any
  go_enter Try.func26, Try.ntmps26
  go_wp2_with fail
  refine (HK.out _).mono ?_
  rintro e w1 ⟨g, ks, rfl, hk, hb1⟩
  obtain ⟨W, hW⟩ : ∃ W, W = ((w1.alloc (.cells #[.int .i64 1, .int .i64 2] 3)).alloc (.cells #[.int .i64 0, .slice (some ⟨w1.heap.size, 0, none⟩) 2 2] 166)).alloc (.cells #[.slice (some ⟨w1.heap.size + 1, 0, none⟩) 1 1, .slice none 0 0] 43) := ⟨_, rfl⟩
  have hbW : Below w1.heap.size w1 W := by rw [hW]; exact (((Below.refl _ _).alloc (Nat.le_refl _) _).alloc (by simp) _).alloc (by simp; omega) _
  have hb3 : Bk W w1.heap.size 3 #[.int .i64 1, .int .i64 2] := by rw [hW]; exact ((Bk.new _ _ _).alloc _).alloc _
  have hb166 : Bk W (w1.heap.size + 1) 166 #[.int .i64 0, .slice (some ⟨w1.heap.size, 0, none⟩) 2 2] := by rw [hW]; exact (Bk.two _ _ _ _).alloc _
  have hb43 : Bk W (w1.heap.size + 2) 43 #[.slice (some ⟨w1.heap.size + 1, 0, none⟩) 1 1, .slice none 0 0] := by
    rw [hW]
    have h := Bk.new ((w1.alloc (.cells #[.int .i64 1, .int .i64 2] 3)).alloc (.cells #[.int .i64 0, .slice (some ⟨w1.heap.size, 0, none⟩) 2 2] 166)) 43 #[.slice (some ⟨w1.heap.size + 1, 0, none⟩) 1 1, .slice none 0 0]
    simpa using h
  have hcs : CsY W 0 (some ⟨w1.heap.size + 1, 0, none⟩) 1 1 [⟨0, some ⟨w1.heap.size, 0, none⟩, 2, 2, [1, 2]⟩] :=
    ⟨.of_bk hb166 rfl (fun j u hu => by simpa [cmCs, Cm.cs] using hu), rfl, Nat.le_refl _, by omega, fun x hx => by
      rw [List.mem_singleton.1 hx]
      exact ⟨.of_bk hb3 rfl (fun j u hu => by simpa using hu), rfl, Nat.le_refl _, by show (2 : Nat) ≤ _; omega, by show (Lit.int .i64 0).wf = true; decide⟩⟩
  have hts : PfsY W 0 (some ⟨w1.heap.size + 2, 0, none⟩) 1 1 [⟨some ⟨w1.heap.size + 1, 0, none⟩, 1, 1, [⟨0, some ⟨w1.heap.size, 0, none⟩, 2, 2, [1, 2]⟩], none, 0, 0, []⟩] :=
    ⟨.of_bk hb43 rfl (fun j u hu => by simpa [pfCs, Pf.cs] using hu), rfl, Nat.le_refl _, by omega, fun x hx => by
      rw [List.mem_singleton.1 hx]
      exact ⟨hcs, ⟨RdY.nil_ _, rfl, Nat.le_refl _, by show (0 : Nat) ≤ _; omega, (fun x hx => by cases hx)⟩⟩⟩
  have hkw : KsY W 0 (some ⟨g, 0, none⟩) 1 1 ks := hk.out.1.keep (F := []) (Kx.of_below (B := 0) hbW) (by simp) (by simp)
  have hkl : ks.length = 1 := by have := congrArg List.length hk.out.2; simpa using this
  have hv : TplV ks [⟨some ⟨w1.heap.size + 1, 0, none⟩, 1, 1, [⟨0, some ⟨w1.heap.size, 0, none⟩, 2, 2, [1, 2]⟩], none, 0, 0, []⟩] := by
    refine ⟨⟨fun n t hn => ?_, fun n t hn x hx => ?_⟩, by rw [hk.out.2]; exact k0_ck, Nat.le_of_ble_eq_true rfl, fun t ht => ?_, fun t ht => ?_, fun t ht x hx => ?_⟩
    · have e := List.mem_of_getElem? hn
      rw [List.mem_singleton.1 e]
      refine ⟨by show (1 : Nat) ≤ 1000; omega, fun cm hcm => ?_⟩
      rw [List.mem_singleton.1 hcm]
      exact ⟨⟨0, rfl, by omega⟩, by show (2 : Nat) ≤ _; omega⟩
    · have e := List.mem_of_getElem? hn
      rw [List.mem_singleton.1 e] at hx
      cases hx
    · rw [List.mem_singleton.1 ht, hk.out.2]; exact k0_comp
    · rw [List.mem_singleton.1 ht]; exact Nat.zero_le _
    · rw [List.mem_singleton.1 ht] at hx; cases hx
  have hbl := pfbuild_any hkw.ok_ hts.ok_ hv (nn := 0) (oA := none) (on := 0) (oc := 0) (ovs := []) (by omega) ⟨Rd.nil_ _, rfl, Nat.le_refl _, by omega, (fun x hx => by cases hx), Nat.le_refl _⟩
  have hbe : buildF (ks.map Kd.p) ((([⟨some ⟨w1.heap.size + 1, 0, none⟩, 1, 1, [⟨0, some ⟨w1.heap.size, 0, none⟩, 2, 2, [1, 2]⟩], none, 0, 0, []⟩] : List Pf)).map Pf.p) 20 ((0 : Nat) : Int) (([] : List Ov).map Ov.p) = (0, [([], [(0, [1, 2])])]) := by
    rw [hk.out.2]; exact k0_build
  rw [hbe] at hbl
  have HBL : Hid (Calls Try.prog 25 #[.slice (some ⟨g, 0, none⟩) 1 1, .slice (some ⟨w1.heap.size + 2, 0, none⟩) 1 1, .int .i64 0, .slice none 0 0] W fun e w' => ∃ (b o c : Nat) (A : Option Addr) (c2 : Nat), e = .returned (.tuple #[.slice (some ⟨b, o, none⟩) 1 c, .int .i64 0]) ∧ w'.cell? ⟨b, o + 1, none⟩ = some (.slice A 1 c2) ∧ Below W.heap.size W w') := Lib.hid (hbl.mono fun e w' h => by
    obtain ⟨h1, h2⟩ := h
    rcases h2 with ⟨h3, _⟩ | ⟨_, A, m, c, l, rfl, h4⟩
    · exact absurd rfl h3
    · obtain ⟨x, rfl, hx⟩ := one_of_map h4.out.2
      obtain rfl : m = 1 := h4.out.1.len
      have hx2 : x.cms.map Cm.p = [(0, [1, 2])] := congrArg Prod.snd hx
      obtain ⟨cm, hcm, _⟩ := one_of_map hx2
      have hcn : x.cn = 1 := by have := (h4.out.1.ys.ok x (List.mem_singleton.2 rfl)).cs.len; rw [hcm] at this; exact this
      obtain ⟨b, o, rfl, _, _, q1⟩ := Rd.btS h4.out.1.own (k := 0) (f := x) (by omega) rfl
      rw [Nat.zero_mul, Nat.add_zero, hcn] at q1
      exact ⟨b, o, c, x.cA, x.cc, rfl, q1, h1⟩)
  have HB : Hid (Below w.heap.size w W) := Lib.hid (hb1.trans (hbW.mono hb1.size))
  clear hk hb1 hbW hb3 hb166 hb43 hcs hts hkw hkl hv hbl hbe HK
  go_wp2_with fail
  rw [← hW]
  clear hW
  (with_reducible refine HBL.out.mono ?_)
  rintro e w3 ⟨b, o, c, A, c2, rfl, q1, hb3⟩
  have HB3 := Lib.hid (HB.out.trans (hb3.mono HB.out.size))
  clear hb3 HBL HB
  go_wp2_with fail
  go_ret
  exact ⟨rfl, HB3.out⟩

/-! ### Qi -/
noncomputable def pcInner : Code := (Try.f4.body.bind (findB 14)).getD .skip
/-- 'slices.Concat([]int{i}, path)', its blocks just laid. -/
theorem concat2_any {W1 : World} {i : Nat} {qA : Option Addr} {qn qc : Nat} {path : List Int} (hq : RdY W1 0 3 1 qA qn (path.map (Value.int .i64))) (hl : qn = path.length) (hc : qn ≤ qc) (hc2 : qc ≤ 9223372036854775807) (h100 : path.length ≤ 100) :
    Calls Try.prog 28 #[.slice (some ⟨W1.heap.size + 1, 0, none⟩) 2 2] (((W1.alloc (.cells #[.int .i64 (i : Int)] 3)).alloc (.cells #[.slice (some ⟨W1.heap.size, 0, none⟩) 1 1, .slice qA qn qc] 30)).drew) fun e w' => ∃ (A' : Option Addr) (c' : Nat), e = .returned (.slice A' (path.length + 1) c') ∧ Hid (RdY w' 0 3 1 A' (path.length + 1) (((i : Int) :: path).map (Value.int .i64))) ∧ Hid (Below W1.heap.size W1 w') := by
  have e1 : (((W1.alloc (.cells #[.int .i64 (i : Int)] 3)).alloc (.cells #[.slice (some ⟨W1.heap.size, 0, none⟩) 1 1, .slice qA qn qc] 30)).drew).heap.size = W1.heap.size + 2 := by simp
  have hk1 : Bk (((W1.alloc (.cells #[.int .i64 (i : Int)] 3)).alloc (.cells #[.slice (some ⟨W1.heap.size, 0, none⟩) 1 1, .slice qA qn qc] 30)).drew) W1.heap.size 3 #[.int .i64 (i : Int)] := ((Bk.new W1 _ _).alloc _).drew
  have hk2 : Bk (((W1.alloc (.cells #[.int .i64 (i : Int)] 3)).alloc (.cells #[.slice (some ⟨W1.heap.size, 0, none⟩) 1 1, .slice qA qn qc] 30)).drew) (W1.heap.size + 1) 30 #[.slice (some ⟨W1.heap.size, 0, none⟩) 1 1, .slice qA qn qc] := by
    have h := (Bk.new (W1.alloc (.cells #[.int .i64 (i : Int)] 3)) 30 #[.slice (some ⟨W1.heap.size, 0, none⟩) 1 1, .slice qA qn qc]).drew
    simpa using h
  have hbz : Below W1.heap.size W1 (((W1.alloc (.cells #[.int .i64 (i : Int)] 3)).alloc (.cells #[.slice (some ⟨W1.heap.size, 0, none⟩) 1 1, .slice qA qn qc] 30)).drew) := (((Below.refl _ _).alloc (Nat.le_refl _) _).alloc (by simp) _).drew
  have hkz : Kx 0 [] W1 (((W1.alloc (.cells #[.int .i64 (i : Int)] 3)).alloc (.cells #[.slice (some ⟨W1.heap.size, 0, none⟩) 1 1, .slice qA qn qc] 30)).drew) := Kx.of_below hbz
  have hcat : catS [⟨some ⟨W1.heap.size, 0, none⟩, 1, 1, [(i : Int)]⟩, ⟨qA, qn, qc, path⟩] = (i : Int) :: path := by simp [catS]
  obtain ⟨WZ, hWZ⟩ : ∃ WZ, WZ = ((W1.alloc (.cells #[.int .i64 (i : Int)] 3)).alloc (.cells #[.slice (some ⟨W1.heap.size, 0, none⟩) 1 1, .slice qA qn qc] 30)).drew := ⟨_, rfl⟩
  rw [← hWZ] at e1 hk1 hk2 hbz hkz ⊢
  clear hWZ
  have h1 : Rd WZ WZ.heap.size 1 (some ⟨W1.heap.size + 1, 0, none⟩) 2 (sgCs [⟨some ⟨W1.heap.size, 0, none⟩, 1, 1, [(i : Int)]⟩, ⟨qA, qn, qc, path⟩]) := (RdY.of_bk (B := 0) (n := 2) (size := 1) hk2 rfl (fun j u hu => by simpa [sgCs] using hu)).rd
  have h2 : SgOk WZ WZ.heap.size ⟨some ⟨W1.heap.size, 0, none⟩, 1, 1, [(i : Int)]⟩ := ⟨(RdY.of_bk (B := 0) (n := 1) (size := 1) (xs := [Value.int .i64 (i : Int)]) hk1 rfl (fun j u hu => by simpa using hu)).rd, rfl, Nat.le_refl _, by show (1 : Nat) ≤ _; omega⟩
  have h3 : SgOk WZ WZ.heap.size ⟨qA, qn, qc, path⟩ := ⟨(hq.keep hkz (by simp)).rd, hl, hc, hc2⟩
  have hcc := concat_any (w := WZ) (B := WZ.heap.size) (n := 2) (c := 2) (A := some ⟨W1.heap.size + 1, 0, none⟩) (l := [⟨some ⟨W1.heap.size, 0, none⟩, 1, 1, [(i : Int)]⟩, ⟨qA, qn, qc, path⟩]) h1 rfl (Nat.le_refl _) (by omega)
    (fun x hx => by
      rcases List.mem_cons.1 hx with rfl | hx
      · exact h2
      · rw [List.mem_singleton.1 hx]; exact h3)
    (Nat.le_refl _) (by rw [hcat]; simp) (by rw [hcat, List.length_cons]; omega)
  rw [hcat] at hcc
  refine hcc.mono fun e w' h => ?_
  obtain ⟨A', c', h4, h5, h6⟩ := h
  exact ⟨A', c', h4, Lib.hid (RdY.of_own h5.out), Lib.hid (hbz.trans (h6.mono (by omega)))⟩

set_option maxHeartbeats 8000000 in
theorem pcInner_any {x0 x1 x2 x3 x4 x5 x6 x8 x11 x13 x14 x15 x16 x17 x18 x19 x20 x21 x22 x23 x24 x25 x26 x27 x28 x29 x30 x31 x32 x33 x34 x35 x36 x37 x38 x39 x40 x41 x42 x43 x44 x45 x46 x47 x48 x49 x50 x51 x52 x53 x54 x55 x56 x57 x58 x59 x60 x61 x62 x63 x64 x65 x66 x67 x68 x69 x70 x71 x72 x73 x74 x75 x76 x77 x78 x79 x80 x81 x82 x83 x84 x85 x86 x87 x88 x89 x90 x91 x92 x93 x94 x95 x96 x97 x98 x99 x100 x101 x102 x103 x104 x105 x106 x107 x108 x109 x110 x111 x112 x113 x114 : Value} {Q : Exit → Act → World → Prop} {w4 wi : World} {base base2 a i bn bc sn sc : Nat} {bA sA : Option Addr} {ks : List Kd} {lb sub : List Bt}
    (hL : BuI w4 base ks bA bn bc lb) (hb4 : Below w4.heap.size w4 wi) (hS : BuI wi base2 ks sA sn sc sub) (ha : a + sn ≤ bn) (hbn : bn ≤ 1000)
    (hpath : ∀ (j : Nat) (x : Bt), sub[j]? = some x → ∃ y, lb[a + j]? = some y ∧ y.path = (i : Int) :: x.path) (h100 : ∀ x ∈ sub, x.path.length ≤ 100)
    (hN : ∀ (y4 y14 y15 y83 y84 y85 y86 y87 y88 y89 y90 y91 y92 y93 y94 y95 y96 y97 y98 y99 y100 y101 y102 y103 y104 y105 : Value) (w' : World), Hid (Below wi.heap.size wi w') → Q .normal ⟨#[x0, x1, x2, x3, y4, x5, x6, .slice bA bn bc, x8, .int .i64 (a : Int), .int .i64 (i : Int), x11, .slice sA sn sc, x13, y14, y15, x16, x17, x18, x19, x20, x21, x22, x23, x24, x25, x26, x27, x28, x29, x30, x31, x32, x33, x34, x35, x36, x37, x38, x39, x40, x41, x42, x43, x44, x45, x46, x47, x48, x49, x50, x51, x52, x53, x54, x55, x56, x57, x58, x59, x60, x61, x62, x63, x64, x65, x66, x67, x68, x69, x70, x71, x72, x73, x74, x75, x76, x77, x78, x79, x80, x81, x82, y83, y84, y85, y86, y87, y88, y89, y90, y91, y92, y93, y94, y95, y96, y97, y98, y99, y100, y101, y102, y103, y104, y105, x106, x107, x108, x109, x110, x111, x112, x113, x114], []⟩ w') :
    Code.wp Try.prog pcInner Q ⟨#[x0, x1, x2, x3, x4, x5, x6, .slice bA bn bc, x8, .int .i64 (a : Int), .int .i64 (i : Int), x11, .slice sA sn sc, x13, x14, x15, x16, x17, x18, x19, x20, x21, x22, x23, x24, x25, x26, x27, x28, x29, x30, x31, x32, x33, x34, x35, x36, x37, x38, x39, x40, x41, x42, x43, x44, x45, x46, x47, x48, x49, x50, x51, x52, x53, x54, x55, x56, x57, x58, x59, x60, x61, x62, x63, x64, x65, x66, x67, x68, x69, x70, x71, x72, x73, x74, x75, x76, x77, x78, x79, x80, x81, x82, x83, x84, x85, x86, x87, x88, x89, x90, x91, x92, x93, x94, x95, x96, x97, x98, x99, x100, x101, x102, x103, x104, x105, x106, x107, x108, x109, x110, x111, x112, x113, x114], []⟩ wi := by
  conv => arg 2; whnf
  have hbcap := own_cap2 hL.own
  have hbc1 := hbcap.1
  have hbc2 := hbcap.2
  have hscap := own_cap2 hS.own
  have hsc1 := hscap.1
  have hsc2 := hscap.2
  have HL := Lib.hid hL
  have HB4 := Lib.hid hb4
  have HSB := Lib.hid hS
  have HPT := Lib.hid hpath
  have H100 := Lib.hid h100
  clear hL hb4 hS hpath h100 hbcap hscap
  go_wp2_with fail
  go_loopw [85] (fun jv wx => ∃ (j : Nat), j ≤ sn ∧ jv = .int .i64 j ∧ Hid (Below wi.heap.size wi wx)) (fun jv _ => sn - (intOf jv).toNat)
  case atStart => exact ⟨0, Nat.zero_le _, rfl, Lib.hid (Below.refl _ _)⟩
  case round =>
    obtain ⟨j, hj, rfl, HWJ⟩ := hrel
    by_cases hjl : j < sn
    · have hjz : (j : Int) < sn := by omega
      have hjz0 : (0 : Int) ≤ j := by omega
      obtain ⟨sx, hsx⟩ : ∃ sx, sub[j]? = some sx := ⟨_, List.getElem?_eq_getElem (by have := HSB.out.len; omega)⟩
      have hsm := List.mem_of_getElem? hsx
      have hkj : Kx 0 [] wi wr := Kx.of_below HWJ.out
      obtain ⟨bS, oS, rfl, hbS, q0, q1⟩ := Rd.btS (hkj.own HSB.out.own (by simp)) hjl hsx
      have hsy := (HSB.out.ys.keep hkj (by simp) (by simp)).ok sx hsm
      obtain ⟨bx, hbx, hpe⟩ := HPT.out j sx hsx
      obtain ⟨K, hK⟩ : ∃ K, K = a + j := ⟨_, rfl⟩
      have HADD : Hid (wrap64 ((a : Int) + (j : Int)) = (K : Int)) := Lib.hid (by rw [hK]; unfold wrap64; omega)
      have HADD2 : Hid (IntKind.i64.wrap ((a : Int) + (j : Int)) = (K : Int)) := Lib.hid (by rw [IntKind.wrap_i64, hK]; omega)
      have hKb : K < bn := by omega
      have hKz : (K : Int) < bn := by omega
      have hKz0 : (0 : Int) ≤ K := by omega
      rw [← hK] at hbx
      have hb4r : Below w4.heap.size w4 wr := HB4.out.trans (HWJ.out.mono HB4.out.size)
      have hk4 : Kx 0 [] w4 wr := Kx.of_below hb4r
      have hby := (HL.out.ys.keep hk4 (by simp) (by simp)).ok bx (List.mem_of_getElem? hbx)
      obtain ⟨bB, oB, rfl, hb9, r0, r1⟩ := Rd.btS (hk4.own HL.out.own (by simp)) hKb hbx
      obtain ⟨W1, hW1⟩ : ∃ W1, W1 = wr.alloc (.cells #[.slice sx.pA sx.pn sx.pc, .slice sx.cA sx.cn sx.cc] 40) := ⟨_, rfl⟩
      obtain ⟨hs, hhs⟩ : ∃ hs, hs = wr.heap.size := ⟨_, rfl⟩
      have hbw1 : Below wr.heap.size wr W1 := by rw [hW1]; exact (Below.refl _ _).alloc (Nat.le_refl _) _
      have hhk : Bk W1 hs 40 #[.slice sx.pA sx.pn sx.pc, .slice sx.cA sx.cn sx.cc] := by rw [hW1, hhs]; exact Bk.new _ _ _
      have HB6W : Hid (Below wi.heap.size wi W1) := Lib.hid (HWJ.out.trans (hbw1.mono HWJ.out.size))
      have hsy1 := hsy.keep (F := []) (Kx.of_below hbw1) (by simp) (by simp)
      have hby1 := hby.keep (F := []) (Kx.of_below hbw1) (by simp) (by simp)
      have hbl : bB < W1.heap.size := by have := hbw1.size; omega
      have r0' : W1.cell? ⟨bB, oB + K * 2, none⟩ = some (.slice bx.pA bx.pn bx.pc) := (World.cell?_of_block (w := wr) (hbw1.block bB hb9)).trans r0
      have HS5 : Hid (∀ wz, Below W1.heap.size W1 wz → wz.cell? ⟨bB, oB + K * 2, none⟩ = some (.slice bx.pA bx.pn bx.pc) ∧ wz.cell? ⟨hs, 0, none⟩ = some (.slice sx.pA sx.pn sx.pc)) := Lib.hid fun wz hz => ⟨(World.cell?_of_block (w := W1) (hz.block bB hbl)).trans r0', (hhk.below hz hhk.lt).cell 0⟩
      have HCC := Lib.hid (concat2_any (i := i) hsy1.rd hsy1.len hsy1.cap hsy1.cap2 (H100.out sx hsm))
      have HEQ : Hid (∀ (wz : World) (A' : Option Addr) (c' : Nat), Below W1.heap.size W1 wz → RdY wz 0 3 1 A' (sx.path.length + 1) (((i : Int) :: sx.path).map (Value.int .i64)) → Calls Try.prog 27 #[.slice bx.pA bx.pn bx.pc, .slice A' (sx.path.length + 1) c'] wz fun e w' => e = .returned (.bool true) ∧ ∃ m, wz.drewN m = w') := Lib.hid fun wz A' c' hz ho => by
        have h := equalInts_any bx.pA A' bx.pn bx.pc (sx.path.length + 1) c' wz.heap.size bx.path ((i : Int) :: sx.path) wz hby1.len rfl (Nat.le_trans hby1.cap hby1.cap2) ((hby1.rd.keep (F := []) (Kx.of_below hz) (by simp)).rd) ho.rd
        rw [decide_eq_true hpe] at h
        exact h
      have HW1 := Lib.hid (And.intro hW1 hhs)
      have s5 := HS5.out W1.drew (Below.refl _ _).drew
      clear hsx hsm hkj hbS hsy hK hbx hpe hb4r hk4 hby hb9 r0 r1 hbw1 hhk hsy1 hby1 hbl r0' HWJ hW1 hhs
      generalize bx.pA = bpA at *
      generalize bx.pn = bpn at *
      generalize bx.pc = bpc at *
      generalize sx.pA = qA at *
      generalize sx.pn = qn at *
      generalize sx.pc = qc at *
      generalize sx.cA = qcA at *
      generalize sx.cn = qcn at *
      generalize sx.cc = qcc at *
      generalize sx.path.length + 1 = N1 at *
      go_upto_region 16 with fail
      go_cut [14, 15] from 87 to 89 (fun s14 s15 wx => s14 = .int .i64 (j : Int) ∧ s15 = .pointer (some ⟨hs, 0, none⟩) ∧ wx = W1)
      case first =>
        go_wp2_with fail
        go_meet
        case rel => exact ⟨rfl, by rw [HW1.out.2], HW1.out.1.symm⟩
      case rest =>
        obtain ⟨rfl, rfl, rfl⟩ := hcut
        obtain ⟨W1, rfl⟩ : ∃ q, q = wc := ⟨_, rfl⟩
        clear q0 q1 HW1
        go_upto_region 17 with fail
        go_cut [104] from 90 to 103 (fun s104 wx => s104 = .bool false ∧ Hid (Below W1.heap.size W1 wx))
        case first =>
          refine wp_region_noPanic ?_
          refine wp_region_H (S := fun wz => wz.cell? ⟨bB, oB + K * 2, none⟩ = some (.slice bpA bpn bpc) ∧ wz.cell? ⟨hs, 0, none⟩ = some (.slice qA qn qc)) (by kernel_rfl) ?_
          refine wpAnyH_val (i := 0) (v := .slice (some ⟨bB, oB, none⟩) bn bc) (d := some 90) rfl rfl (by kernel_rfl) (by kernel_rfl) (by kernel_rfl) (fun _ _ _ h => h) (Or.inl ⟨by rfl, fun w hS => by (obtain ⟨h0, h1⟩ := hS; go_simp)⟩) s5 ?_
          (try simp only [Act.put, List.setIfInBounds_toArray, List.set_cons_zero, List.set_cons_succ])
          refine wpAnyH_val (i := 1) (v := .int .i64 (a : Int)) (d := some 91) rfl rfl (by kernel_rfl) (by kernel_rfl) (by kernel_rfl) (fun _ _ _ h => h) (Or.inl ⟨by rfl, fun w hS => by (obtain ⟨h0, h1⟩ := hS; go_simp)⟩) s5 ?_
          (try simp only [Act.put, List.setIfInBounds_toArray, List.set_cons_zero, List.set_cons_succ])
          refine wpAnyH_val (i := 2) (v := .int .i64 (j : Int)) (d := some 92) rfl rfl (by kernel_rfl) (by kernel_rfl) (by kernel_rfl) (fun _ _ _ h => h) (Or.inl ⟨by rfl, fun w hS => by (obtain ⟨h0, h1⟩ := hS; go_simp)⟩) s5 ?_
          (try simp only [Act.put, List.setIfInBounds_toArray, List.set_cons_zero, List.set_cons_succ])
          refine wpAnyH_val (i := 3) (v := .int .i64 (K : Int)) (d := some 93) rfl rfl (by kernel_rfl) (by kernel_rfl) (by kernel_rfl) (fun _ _ _ h => h) (Or.inl ⟨by rfl, fun w hS => by (have hadd := HADD.out; have hadd2 := HADD2.out; obtain ⟨h0, h1⟩ := hS; go_simp)⟩) s5 ?_
          (try simp only [Act.put, List.setIfInBounds_toArray, List.set_cons_zero, List.set_cons_succ])
          refine wpAnyH_val (i := 4) (v := .pointer (some ⟨bB, oB + K * 2, none⟩)) (d := some 94) rfl rfl (by kernel_rfl) (by kernel_rfl) (by kernel_rfl) (fun _ _ _ h => h) (Or.inl ⟨by rfl, fun w hS => by (obtain ⟨h0, h1⟩ := hS; go_simp)⟩) s5 ?_
          (try simp only [Act.put, List.setIfInBounds_toArray, List.set_cons_zero, List.set_cons_succ])
          refine wpAnyH_val (i := 5) (v := .pointer (some ⟨bB, oB + K * 2, none⟩)) (d := some 95) rfl rfl (by kernel_rfl) (by kernel_rfl) (by kernel_rfl) (fun _ _ _ h => h) (Or.inl ⟨by rfl, fun w hS => by (obtain ⟨h0, h1⟩ := hS; go_simp)⟩) s5 ?_
          (try simp only [Act.put, List.setIfInBounds_toArray, List.set_cons_zero, List.set_cons_succ])
          refine wpAnyH_val (i := 6) (v := .slice bpA bpn bpc) (d := some 96) rfl rfl (by kernel_rfl) (by kernel_rfl) (by kernel_rfl) (fun _ _ _ h => h) (Or.inl ⟨by rfl, fun w hS => by (obtain ⟨h0, h1⟩ := hS; go_simp)⟩) s5 ?_
          (try simp only [Act.put, List.setIfInBounds_toArray, List.set_cons_zero, List.set_cons_succ])
          refine wpAnyH_val (i := 7) (v := .int .i64 (i : Int)) (d := some 97) rfl rfl (by kernel_rfl) (by kernel_rfl) (by kernel_rfl) (fun _ _ _ h => h) (Or.inl ⟨by rfl, fun w hS => by (obtain ⟨h0, h1⟩ := hS; go_simp)⟩) s5 ?_
          (try simp only [Act.put, List.setIfInBounds_toArray, List.set_cons_zero, List.set_cons_succ])
          refine wpAnyH_val (i := 9) (v := .pointer (some ⟨hs, 0, none⟩)) (d := some 99) rfl rfl (by kernel_rfl) (by kernel_rfl) (by kernel_rfl) (fun _ _ _ h => h) (Or.inl ⟨by rfl, fun w hS => by (obtain ⟨h0, h1⟩ := hS; go_simp)⟩) s5 ?_
          (try simp only [Act.put, List.setIfInBounds_toArray, List.set_cons_zero, List.set_cons_succ])
          refine wpAnyH_val (i := 10) (v := .slice qA qn qc) (d := some 100) rfl rfl (by kernel_rfl) (by kernel_rfl) (by kernel_rfl) (fun _ _ _ h => h) (Or.inl ⟨by rfl, fun w hS => by (obtain ⟨h0, h1⟩ := hS; go_simp)⟩) s5 ?_
          (try simp only [Act.put, List.setIfInBounds_toArray, List.set_cons_zero, List.set_cons_succ])
          refine wpAnyH_oneW (i := 8) rfl (by kernel_rfl) (by rfl) ?_
          go_simp
          refine And.intro (by first | exact HS5.out _ ((Below.refl _ _).alloc (Nat.le_refl _) _) | exact HS5.out _ (((Below.refl _ _).drew).alloc (Nat.le_refl _) _) | exact HS5.out _ (((Below.refl _ _).alloc (Nat.le_refl _) _).drew)) ?_
          (try simp only [Act.put, List.setIfInBounds_toArray, List.set_cons_zero, List.set_cons_succ])
          refine wpAnyH_oneW (i := 11) rfl (by kernel_rfl) (by rfl) ?_
          go_simp
          refine And.intro (by first | exact HS5.out _ (((Below.refl _ _).alloc (Nat.le_refl _) _).alloc (by simp) _) | exact HS5.out _ ((((Below.refl _ _).alloc (Nat.le_refl _) _).alloc (by simp) _).drew)) ?_
          (try simp only [Act.put, List.setIfInBounds_toArray, List.set_cons_zero, List.set_cons_succ])
          refine wpAnyH_oneW (i := 12) rfl (by kernel_rfl) (by rfl) ?_
          go_simp
          go_at_call 28
          (with_reducible refine (HCC.out).mono ?_)
          rintro e w6 ⟨A6, c6, rfl, hown6, hb6⟩
          have HA6 : Hid (Below W1.heap.size W1 w6) := hb6
          have s6 := HS5.out _ HA6.out
          refine And.intro s6 ?_
          (try simp only [Act.put, List.setIfInBounds_toArray, List.set_cons_zero, List.set_cons_succ])
          refine wpAnyH_oneW (i := 13) rfl (by kernel_rfl) (by rfl) ?_
          go_simp
          go_at_call 27
          (with_reducible refine (HEQ.out w6 A6 c6 HA6.out hown6.out).mono ?_)
          rintro e w7 ⟨rfl, m7, rfl⟩
          have HA7 : Hid (Below W1.heap.size W1 (w6.drewN m7)) := Lib.hid (below_dn HA6.out m7)
          have s7 := HS5.out _ HA7.out
          refine And.intro s7 ?_
          (try simp only [Act.put, List.setIfInBounds_toArray, List.set_cons_zero, List.set_cons_succ])
          refine wpAnyH_val (i := 14) (v := .bool false) (d := some 104) rfl rfl (by kernel_rfl) (by kernel_rfl) (by kernel_rfl) (fun _ _ _ h => h) (Or.inl ⟨by rfl, fun w hS => by (obtain ⟨h0, h1⟩ := hS; go_simp)⟩) s7 ?_
          (try simp only [Act.put, List.setIfInBounds_toArray, List.set_cons_zero, List.set_cons_succ])
          refine wpAnyH_done (by kernel_rfl) ?_ _
          refine NoPanic.normal ?_
          go_wp2_with fail
          go_meet
          case rel => exact ⟨rfl, HA7⟩
        case rest =>
          obtain ⟨rfl, HBC⟩ := hcut
          have HBN6 : Hid (Below wi.heap.size wi wc) := Lib.hid (HB6W.out.trans (HBC.out.mono HB6W.out.size))
          clear s5 HS5 HCC HEQ HBC
          go_wp2_with fail
          go_roundw
          case measure => simp [intOf]; omega
          case rel => exact ⟨j + 1, hjl, by go_num, HBN6⟩
    · obtain rfl : j = sn := by omega
      go_wp2_with fail
      first
        | exact HWJ
        | exact hN _ _ _ _ _ _ _ _ _ _ _ _ _ _ _ _ _ _ _ _ _ _ _ _ _ _ _ HWJ

/-! ### Qh -/
set_option maxHeartbeats 1600000 in
theorem kindsC_any (A : Option Addr) (n c B : Nat) (zs : List Int) (w : World) (hr : Rd w B 1 A n (zs.map (Value.int .i64))) (hn : n = zs.length) (hnc : n ≤ c) (hc : c ≤ 9223372036854775807) (hz : ∀ z ∈ zs, (Lit.int .i64 z).wf = true) (hB : B ≤ w.heap.size) :
    Calls Try.prog 22 #[.slice A n c] w fun e w' => ∃ (kA : Option Addr) (kn kc : Nat) (ks : List Kd), e = .returned (.slice kA kn kc) ∧ Hid (KsY w' 0 kA kn kc ks ∧ GenKs (ks.map Kd.p) ∧ kn = ks.length ∧ 1 ≤ kn ∧ kn ≤ 4) ∧ Below w.heap.size w w' := by
  obtain ⟨W0, hW0⟩ : ∃ W0, W0 = w.alloc (.cells #[.slice A n c] 189) := ⟨_, rfl⟩
  have hb0 : Below w.heap.size w W0 := by rw [hW0]; exact (Below.refl _ _).alloc (Nat.le_refl _) _
  have hst : StrSt W0 B w.heap.size := ⟨A, n, c, zs, by rw [hW0]; exact Bk.new _ _ _, hn, hnc, hc, hr.below (hb0.mono hB), hz⟩
  have HKD := Lib.hid (kinds_any w.heap.size B W0 hst hB)
  have HB0 := Lib.hid hb0
  clear hr hn hnc hc hz hb0 hst
  go_enter Try.func22, Try.ntmps22
  go_wp2_with fail
  rw [← hW0]
  clear hW0
  (with_reducible refine HKD.out.mono ?_)
  rintro e w1 ⟨kA, kc, ks, rfl, hki, hgk, hk1, hk4, hst1, hq1⟩
  have HK := Lib.hid (And.intro (KsI.ksY (B := 0) hki) (And.intro hgk (And.intro hk1 hk4)))
  have HB1 : Hid (Below w.heap.size w w1) := Lib.hid (HB0.out.trans (Fq.below hq1 (fun k hk => by rw [List.mem_singleton.1 hk]; exact Nat.le_refl _) HB0.out.size))
  clear hki hgk hk1 hk4 hst1 hq1 HKD
  go_wp2_with fail
  go_ret
  exact ⟨kA, _, kc, ks, rfl, Lib.hid ⟨HK.out.1, HK.out.2.1, rfl, HK.out.2.2.1, HK.out.2.2.2⟩, HB1.out⟩
theorem gen_one {ks : List Kd} (h : GenKs (ks.map Kd.p)) : ∀ k ∈ ks, oneF k.nm k.fds = 0 := fun k hk => by
  obtain ⟨j, hj⟩ := List.mem_iff_getElem?.1 hk
  exact h.one (i := j) (k := k.p) (by rw [List.getElem?_map, hj]; rfl)
/-- Drawn templates are valid ones. -/
theorem TsI.tplV {base : Nat} {w : World} {ks : List Kd} {OA : Option Addr} {i oc : Nat} {ts : List Pf} (h : TsI base w ks OA i oc ts) (hck : checkF (ks.map Kd.p) = 0) (h4 : i ≤ 4) : TplV ks ts := by
  have hlen : (ts.map Pf.p).length ≤ 4 := by rw [List.length_map, ← h.len]; exact h4
  have hl := h.len
  refine ⟨⟨fun n t hn => ⟨Nat.le_trans (h.cn t (List.mem_of_getElem? hn)) (by omega), fun cm hcm => ?_⟩, fun n t hn x hx => ?_⟩, hck, by omega, fun t ht => ?_, fun t ht => ?_, fun t ht x hx => ?_⟩
  · have htm := List.mem_of_getElem? hn
    obtain ⟨k, d, h1, h2, h3⟩ := (h.dr.comps t.p (List.mem_map_of_mem htm)).ok cm.p (List.mem_map_of_mem hcm)
    have hk := (List.getElem?_eq_some_iff.1 h2).1
    rw [List.length_map] at hk
    have h5 := holdK_iff.1 h3
    have h6 := oneF_len h5.1
    have h7 := ((h.ok t htm).cs.ok cm hcm).len
    have h8 : cm.vals.length = d.2.length := h5.2.1
    exact ⟨⟨k, h1, hk⟩, by omega⟩
  · obtain ⟨k, u, h1, h2, _⟩ := h.dr.parts n t.p (by rw [List.getElem?_map, hn]; rfl) x.p (List.mem_map_of_mem hx)
    exact ⟨k, h1, h2⟩
  · exact pcompF_ok _ none (h.dr.comps t.p (List.mem_map_of_mem ht)) (fun p hp => by cases hp)
  · have h1 := h.dr.few t.p (List.mem_map_of_mem ht)
    have h2 : (t.pts.map Pt.p).length ≤ 2 := h1
    rw [List.length_map] at h2
    have h3 := (h.ok t ht).ts.len
    omega
  · obtain ⟨n, hn⟩ := List.mem_iff_getElem?.1 ht
    obtain ⟨k, u, h1, h2, h3, h5⟩ := h.dr.parts n t.p (by rw [List.getElem?_map, hn]; rfl) x.p (List.mem_map_of_mem hx)
    have h6 : x.of_ = k := h1
    rw [h6]
    have hk := (List.getElem?_eq_some_iff.1 h3).1
    exact (h.dr.build hlen k 20 u _ (by omega) h3 h5).1
theorem subL_drop (bf : Int → Osv → Int × List Blt) {i : Nat} {ps : List (Int × Osv)} {p : Int × Osv} (h : ps[i]? = some p) : subL bf i (ps.drop i) = ((bf p.1 p.2).2.map fun b => ((i : Int) :: b.1, b.2)) ++ subL bf (i + 1) (ps.drop (i + 1)) := by
  obtain ⟨h1, h2⟩ := List.getElem?_eq_some_iff.1 h
  rw [List.drop_eq_getElem_cons h1, h2, subL]
theorem subL_congr {build build' : Int → Osv → Int × List Blt} : ∀ (ps : List (Int × Osv)) (i : Nat), (∀ p ∈ ps, build p.1 p.2 = build' p.1 p.2) → subL build i ps = subL build' i ps
  | [], _, _ => rfl
  | p :: r, i, h => by
    rw [subL, subL, h p (List.mem_cons_self ..), subL_congr r (i + 1) (fun q hq => h q (List.mem_cons_of_mem _ hq))]
/-- What a drawn template builds where nothing is replaced: itself, and behind it what its parts build. -/
theorem DrT.builds {ks : List Kp2} {T : List Tpl} (h : DrT ks T) (h4 : T.length ≤ 4) {n : Nat} {t : Tpl} (hn : T[n]? = some t) : buildF ks T 20 n [] = (0, ([], t.1) :: subL (buildF ks T 20) 0 t.2) := by
  have hnl := (List.getElem?_eq_some_iff.1 hn).1
  rw [(h.build h4 n 20 t [] (by omega) hn (.inl rfl)).2.2 rfl]
  congr 2
  refine subL_congr t.2 0 fun p hp => ?_
  obtain ⟨k, u, h1, h2, _⟩ := h.parts n t hn p hp
  rw [h1]
  exact buildF_fuel (fun n t hn p hp => by obtain ⟨k, u, h1, h2, _⟩ := h.parts n t hn p hp; exact ⟨k, h1, h2⟩) k 19 20 (by omega) (by omega) p.2

set_option maxHeartbeats 8000000 in
theorem prefabCounts_any (A : Option Addr) (n c B : Nat) (l : List Int) (x : Int) (w : World) (hr : Rd w B 1 A n (l.map (Value.int .i64))) (hn : n = l.length) (hnc : n ≤ c) (hc : c ≤ 9223372036854775807) (hz : ∀ z ∈ l, (Lit.int .i64 z).wf = true) (hB : B ≤ w.heap.size) :
    Calls Try.prog 4 #[.slice A n c, .int .i64 x] w fun e w' => e = .returned (.bool true) ∧ Below w.heap.size w w' := by
  have HKD := Lib.hid (kindsC_any A n c B l w hr hn hnc hc hz hB)
  have HPF := Lib.hid (fun (kA : Option Addr) (kn kc : Nat) (ks : List Kd) (wx : World) (hb : Below w.heap.size w wx) (hk : KsY wx 0 kA kn kc ks) (hone : ∀ k ∈ ks, oneF k.nm k.fds = 0) (h16 : kn ≤ 16) => prefabs_any A n c B l wx (hr.below (hb.mono hB)) hn hnc hc hz (Nat.le_trans hB hb.size) hk hone h16)
  have HBF := Lib.hid builds_any
  have HBW := Lib.hid below_any
  clear hr hn hz
  go_enter Try.func4, Try.ntmps4
  go_wp2_with fail
  (with_reducible refine HKD.out.mono ?_)
  clear HKD
  rintro e w1 ⟨kA, kn, kc, ks, rfl, HK, hb1⟩
  have HB1 := Lib.hid hb1
  have hkn4 := HK.out.2.2.2.2
  clear hb1
  go_wp2_with fail
  (with_reducible refine (HPF.out kA kn kc ks w1 HB1.out HK.out.1 (gen_one HK.out.2.1) (by omega)).mono ?_)
  clear HPF
  rintro e w2 ⟨TA, tn, tc, ts, rfl, HT, hb2⟩
  have HB2 : Hid (Below w.heap.size w w2) := Lib.hid (HB1.out.trans (hb2.mono HB1.out.size))
  have HK2 : Hid (KsY w2 0 kA kn kc ks) := Lib.hid (HK.out.1.keep (F := []) (Kx.of_below (B := 0) hb2) (by simp) (by simp))
  have ht1 := HT.out.2.1
  have ht4 := HT.out.2.2
  have htcap := HT.out.1.y.cap
  have htcap2 := HT.out.1.y.cap2
  have HV : Hid (TplV ks ts) := Lib.hid (HT.out.1.tplV (HK.out.2.1.check (by rw [List.length_map, ← HK.out.2.2.1]; exact hkn4)) ht4)
  clear hb2
  go_wp2_with fail
  (with_reducible refine (HBW.out x tn w2 (by omega) (by omega)).mono ?_)
  clear HBW
  rintro e w3 ⟨rfl, rfl⟩
  obtain ⟨w3, rfl⟩ : ∃ q, q = w2 := ⟨_, rfl⟩
  obtain ⟨nn, hnn⟩ : ∃ nn : Nat, x % (tn : Int) = nn := ⟨(x % (tn : Int)).toNat, by have := Int.emod_nonneg x (show (tn : Int) ≠ 0 by omega); omega⟩
  have hnt : nn < tn := by have := Int.emod_lt_of_pos x (show (0 : Int) < tn by omega); omega
  rw [hnn]
  clear hnn
  obtain ⟨t, htn⟩ : ∃ t, ts[nn]? = some t := ⟨_, List.getElem?_eq_getElem (by have := HT.out.1.len; omega)⟩
  have htp : (ts.map Pf.p)[nn]? = some t.p := by rw [List.getElem?_map, htn]; rfl
  have hlen4 : (ts.map Pf.p).length ≤ 4 := by rw [List.length_map, ← HT.out.1.len]; exact ht4
  have hbb := HT.out.1.dr.builds hlen4 htp
  obtain ⟨bf, hbf⟩ : ∃ bf, bf = buildF (ks.map Kd.p) (ts.map Pf.p) 20 := ⟨_, rfl⟩
  rw [← hbf] at hbb
  obtain ⟨H, hH⟩ : ∃ H, H = (([], t.p.1) : Blt) :: subL bf 0 t.p.2 := ⟨_, rfl⟩
  rw [← hH] at hbb
  have h200 : H.length ≤ 200 := by
    have h := (buildF_both (ks.map Kd.p) (ts.map Pf.p) 20 nn []).1
    rw [← hbf, hbb] at h; exact h
  have hpth : ∀ b ∈ H, b.1.length ≤ 20 := by
    have h := (buildF_both (ks.map Kd.p) (ts.map Pf.p) 20 nn []).2
    rw [← hbf, hbb] at h; exact h
  have HTS : Hid (PfsY w3 0 TA tn tc ts) := Lib.hid HT.out.1.y
  have HBL : Hid (∀ wx, Below w3.heap.size w3 wx → ∀ (k : Nat) (oA : Option Addr) (on oc : Nat) (ovs : List Ov), k < tn → OvsOk wx w3.heap.size oA on oc ovs → Calls Try.prog 25 #[.slice kA kn kc, .slice TA tn tc, .int .i64 k, .slice oA on oc] wx (BldP wx ks (bf k (ovs.map Ov.p)))) := Lib.hid fun wx hb k oA on oc ovs hk ho => by
    rw [hbf]
    exact pfbuild_any (HK2.out.ok_.below hb) (HTS.out.ok_.below hb) HV.out hk ho
  have HBB := Lib.hid hbb
  have HH := Lib.hid (And.intro hH (And.intro h200 hpth))
  have HTN := Lib.hid (And.intro htn htp)
  have HDR := Lib.hid (And.intro HT.out.1.dr hlen4)
  have HBFE := Lib.hid hbf
  clear htn htp hlen4 hbb hH h200 hpth hbf HT HK
  have HNIL : Hid (OvsOk w3 w3.heap.size none 0 0 ([] : List Ov)) := Lib.hid ⟨Rd.nil_ _, rfl, Nat.le_refl _, by omega, (fun y hy => by cases hy), Nat.le_refl _⟩
  go_wp2_with fail
  (with_reducible refine (HBL.out w3 (Below.refl _ _) nn none 0 0 [] hnt HNIL.out).mono ?_)
  rw [show (([] : List Ov).map Ov.p) = [] from rfl, HBB.out]
  rintro e w4 ⟨hb4, hor⟩
  rcases hor with ⟨h0, _⟩ | ⟨_, bA, bn, bc, lb, rfl, HLB0⟩
  · exact absurd rfl h0
  · have HLB : Hid (BuI w4 w3.heap.size ks bA bn bc lb ∧ lb.map Bt.p = H) := HLB0
    have HB4 := Lib.hid hb4
    clear hb4 HLB0
    have hbn : bn = H.length := by rw [← HLB.out.2, List.length_map]; exact HLB.out.1.len
    have hb1 : 1 ≤ bn := by rw [hbn, HH.out.1]; simp
    have hb200 : bn ≤ 200 := by rw [hbn]; exact HH.out.2.1
    have HBN := Lib.hid hbn
    clear hbn
    obtain ⟨b0, hlb0⟩ : ∃ b0, lb[0]? = some b0 := ⟨_, List.getElem?_eq_getElem (by have := HLB.out.1.len; omega)⟩
    have hp0 : b0.pn = 0 := by
      have h1 := congrArg (fun q => q[0]?) HLB.out.2
      simp only [List.getElem?_map, hlb0] at h1
      rw [HH.out.1] at h1
      have h2 : Bt.p b0 = ([], t.p.1) := by simpa using h1
      have h3 := (HLB.out.1.ys.ok b0 (List.mem_of_getElem? hlb0)).len
      have h4 : b0.path = [] := congrArg Prod.fst h2
      rw [h4] at h3; exact h3
    obtain ⟨bB, oB, rfl, hbB, r0, _⟩ := Rd.btS HLB.out.1.own (show 0 < bn by omega) hlb0
    rw [Nat.zero_mul, Nat.add_zero, hp0] at r0
    have hbcap := own_cap2 HLB.out.1.own
    have hbc1 := hbcap.1
    have hbc2 := hbcap.2
    clear hbcap hlb0 hp0
    go_wp2_with fail
    (with_reducible refine (HBF.out _).mono ?_)
    rintro e w5 ⟨rfl, hb5⟩
    have hb35 : Below w3.heap.size w3 w5 := HB4.out.trans (hb5.mono HB4.out.size)
    have HB5 := Lib.hid hb35
    have HB45 := Lib.hid hb5
    have r5 : w5.cell? ⟨bB, oB, none⟩ = some (.slice b0.pA 0 b0.pc) := (World.cell?_of_block (w := w4) (hb5.block bB hbB)).trans r0
    have t0 : ((bn : Int) == 0) = false := by simp; omega
    have t2 : ¬ ((bn : Int) = 0) := by omega
    have t3 : decide ((bn : Int) = 0) = false := by simp; omega
    have t4 : ¬ (bn = 0) := by omega
    have t1 : decide ((0 : Int) < ((0 : Nat) : Int)) = false := by decide
    obtain ⟨bTA, oTA, rfl, hbTA, u0, u1⟩ := (HTS.out.ok_.below hb35).rd.pf hnt HTN.out.1
    have hnz : (nn : Int) < tn := by omega
    have hnz0 : (0 : Int) ≤ nn := by omega
    have htok := ((HTS.out.ok_.below hb35).ok t (List.mem_of_getElem? HTN.out.1)).ts
    have htpcap := htok.cap
    have htpcap2 := htok.cap2
    clear hb5 hb35 HBF r0 htok
    generalize b0.pA = b0A at *
    generalize b0.pc = b0c at *
    obtain ⟨pA, hpA⟩ : ∃ q, q = t.tA := ⟨_, rfl⟩
    obtain ⟨pn, hpn⟩ : ∃ q, q = t.tn := ⟨_, rfl⟩
    obtain ⟨pc, hpc⟩ : ∃ q, q = t.tc := ⟨_, rfl⟩
    rw [← hpA, ← hpn, ← hpc] at u1
    rw [← hpn, ← hpc] at htpcap
    rw [← hpc] at htpcap2
    have HPV := Lib.hid (And.intro hpA (And.intro hpn hpc))
    clear hpA hpn hpc
    go_wp2_with fail
    all_goals try (exfalso; omega)
    clear t0 t1 t2 t3 t4 u0 u1 r5
    go_loopw [9, 57] (fun av iv wx => ∃ (i a : Nat), i ≤ pn ∧ iv = .int .i64 i ∧ av = .int .i64 a ∧ a ≤ bn ∧ Hid (H.drop a = subL bf i (t.p.2.drop i)) ∧ Hid (Below w5.heap.size w5 wx)) (fun _ iv _ => pn - (intOf iv).toNat)
    case atStart => exact ⟨0, 1, Nat.zero_le _, rfl, rfl, hb1, Lib.hid (by rw [HH.out.1]; rfl), Lib.hid (Below.refl _ _)⟩
    case round =>
      obtain ⟨i, a, hi, rfl, rfl, ha, HDP, HW⟩ := hrel
      have hb3r : Below w3.heap.size w3 wr := HB5.out.trans (HW.out.mono HB5.out.size)
      by_cases hlt : i < pn
      · have htw := ((HTS.out.ok_.below hb3r).ok t (List.mem_of_getElem? HTN.out.1)).ts
        obtain ⟨y, hy⟩ : ∃ y, t.pts[i]? = some y := ⟨_, List.getElem?_eq_getElem (by have := htw.len; have := HPV.out.2.1; omega)⟩
        rw [← HPV.out.1, ← HPV.out.2.1, ← HPV.out.2.2] at htw
        obtain ⟨b, o, rfl, hbb, q0, q1⟩ := htw.rd.pt hlt hy
        have hyo := htw.ok y (List.mem_of_getElem? hy)
        obtain ⟨k, ut, hyk, hkn, hku, hgood⟩ := HDR.out.1.parts nn t.p HTN.out.2 y.p (List.mem_map_of_mem (List.mem_of_getElem? hy))
        have hyk : y.of_ = k := hyk
        have hkl := (List.getElem?_eq_some_iff.1 hku).1
        have hkt : k < tn := by omega
        have hz0 := (HDR.out.1.build HDR.out.2 k 20 ut _ (by omega) hku hgood).1
        have hyp : (t.p.2)[i]? = some y.p := by show (t.pts.map Pt.p)[i]? = _; rw [List.getElem?_map, hy]; rfl
        have hdp := HDP.out
        rw [subL_drop bf hyp] at hdp
        obtain ⟨Z, hZ⟩ : ∃ Z, Z = bf k (y.ovs.map Ov.p) := ⟨_, rfl⟩
        have hdp2 : H.drop a = (Z.2.map fun b => ((i : Int) :: b.1, b.2)) ++ subL bf (i + 1) (t.p.2.drop (i + 1)) := by
          rw [hdp, hZ]; show _ = (((bf k (y.ovs.map Ov.p)).2.map fun b => ((i : Int) :: b.1, b.2)) ++ _)
          rw [← hyk]; rfl
        have hZ0 : Z.1 = 0 := by rw [hZ, HBFE.out, ← hyk]; rw [← hyk] at hz0; exact hz0
        obtain ⟨W1, hW1⟩ : ∃ W1, W1 = wr.alloc (.cells #[.int .i64 k, .slice y.oA y.on y.oc] 46) := ⟨_, rfl⟩
        have hbw1 : Below wr.heap.size wr W1 := by rw [hW1]; exact (Below.refl _ _).alloc (Nat.le_refl _) _
        have hhh : Bk W1 wr.heap.size 46 #[.int .i64 k, .slice y.oA y.on y.oc] := by rw [hW1]; exact Bk.new _ _ _
        have hb3w : Below w3.heap.size w3 W1 := hb3r.trans (hbw1.mono hb3r.size)
        have hov : OvsOk W1 w3.heap.size y.oA y.on y.oc y.ovs := by
          have h := (((HTS.out.ok_.below hb3w).ok t (List.mem_of_getElem? HTN.out.1)).ts.ok y (List.mem_of_getElem? hy)).ov
          exact h
        have hcall := HBL.out W1 hb3w k y.oA y.on y.oc y.ovs hkt hov
        rw [← hZ] at hcall
        rw [hyk] at q0
        have HCALL := Lib.hid hcall
        have HZ := Lib.hid (And.intro hZ0 hdp2)
        have HB3W := Lib.hid hb3w
        have HB5W : Hid (Below w5.heap.size w5 W1) := Lib.hid (HW.out.trans (hbw1.mono HW.out.size))
        obtain ⟨hh, hhe⟩ : ∃ hh, hh = wr.heap.size := ⟨_, rfl⟩
        rw [← hhe] at hhh
        have z0 : W1.cell? ⟨hh, 0, none⟩ = some (.int .i64 k) := hhh.cell 0
        have z1 : W1.cell? ⟨hh, 1, none⟩ = some (.slice y.oA y.on y.oc) := hhh.cell 1
        have HW1 := Lib.hid (And.intro hW1 hhe)
        have hiz : (i : Int) < pn := by omega
        have hiz0 : (0 : Int) ≤ i := by omega
        clear htw hy hbb hyo hyk hkn hku hgood hkl hz0 hyp hdp hZ hdp2 hZ0 hbw1 hhh hb3w hov hcall hb3r HW HDP hW1 hhe
        generalize y.oA = yoA at *
        generalize y.on = yon at *
        generalize y.oc = yoc at *
        go_upto_region 11 with fail
        rw [← HW1.out.1, ← HW1.out.2]
        clear q0 q1
        go_wp2_with fail
        with_reducible refine (HCALL.out).mono ?_
        clear HCALL z0 z1
        rintro e w6 ⟨hb6, hor⟩
        have HB6 : Hid (Below w5.heap.size w5 w6) := Lib.hid (HB5W.out.trans (hb6.mono HB5W.out.size))
        clear hb6
        rcases hor with ⟨h0, _⟩ | ⟨_, sA, sn, sc, sub, rfl, HSB⟩
        · exact absurd HZ.out.1 h0
        · have hsn : sn = Z.2.length := by rw [← HSB.out.2, List.length_map]; exact HSB.out.1.len
          have hasn : a + sn ≤ bn := by
            have h := congrArg List.length HZ.out.2
            have h3 := HBN.out
            rw [List.length_drop, List.length_append, List.length_map] at h
            omega
          have hasz : ¬ ((bn : Int) < (a : Int) + sn) := by omega
          have hasd : decide ((bn : Int) < (a : Int) + sn) = false := by simp; omega
          have HSN := Lib.hid hsn
          clear hsn
          have hscap := own_cap2 HSB.out.1.own
          have hsc1 := hscap.1
          have hsc2 := hscap.2
          clear hscap
          have HB46 : Hid (Below w4.heap.size w4 w6) := Lib.hid (HB45.out.trans (HB6.out.mono HB45.out.size))
          have HPTH : Hid (∀ (j : Nat) (sx : Bt), sub[j]? = some sx → ∃ bx, lb[a + j]? = some bx ∧ bx.path = (i : Int) :: sx.path) := Lib.hid fun j sx hsx => by
            have hjl := (List.getElem?_eq_some_iff.1 hsx).1
            have hsl := HSB.out.1.len
            obtain ⟨bx, hbx⟩ : ∃ bx, lb[a + j]? = some bx := ⟨_, List.getElem?_eq_getElem (by have := HLB.out.1.len; omega)⟩
            refine ⟨bx, hbx, ?_⟩
            have h1 : H[a + j]? = some bx.p := by rw [← HLB.out.2, List.getElem?_map, hbx]; rfl
            have h2 : (H.drop a)[j]? = some bx.p := by rw [List.getElem?_drop]; exact h1
            rw [HZ.out.2, List.getElem?_append_left (by rw [List.length_map, ← HSN.out]; omega), List.getElem?_map, ← HSB.out.2, List.getElem?_map, hsx] at h2
            have h3 : ((i : Int) :: sx.p.1, sx.p.2) = bx.p := by simpa using h2
            exact (congrArg Prod.fst h3).symm
          have H20 : Hid (∀ sx ∈ sub, sx.path.length ≤ 100) := Lib.hid fun sx hsx => by
            obtain ⟨j, hj⟩ := List.mem_iff_getElem?.1 hsx
            obtain ⟨bx, hbx, hpe⟩ := HPTH.out j sx hj
            have h1 := HH.out.2.2 bx.p (by rw [← HLB.out.2]; exact List.mem_map_of_mem (List.mem_of_getElem? hbx))
            have h2 : bx.p.1 = (i : Int) :: sx.path := hpe
            rw [h2, List.length_cons] at h1
            omega
          have hpn8 : pn ≤ 2 := by
            have h := HDR.out.1.few t.p (List.mem_map_of_mem (List.mem_of_getElem? HTN.out.1))
            have h2 : (t.pts.map Pt.p).length ≤ 2 := h
            rw [List.length_map] at h2
            have h3 := ((HTS.out.ok t (List.mem_of_getElem? HTN.out.1))).ts.len
            have h4 := HPV.out.2.1
            omega
          go_upto_if 82 with fail
          first
            | (go_step; refine pcInner_any HLB.out.1 HB46.out HSB.out.1 hasn (by omega) HPTH.out H20.out ?_)
            | (go_step; go_step; refine pcInner_any HLB.out.1 HB46.out HSB.out.1 hasn (by omega) HPTH.out H20.out ?_)
            | (go_step; go_step; go_step; refine pcInner_any HLB.out.1 HB46.out HSB.out.1 hasn (by omega) HPTH.out H20.out ?_)
            | (go_step; go_step; go_step; go_step; refine pcInner_any HLB.out.1 HB46.out HSB.out.1 hasn (by omega) HPTH.out H20.out ?_)
            | (go_step; go_step; go_step; go_step; go_step; refine pcInner_any HLB.out.1 HB46.out HSB.out.1 hasn (by omega) HPTH.out H20.out ?_)
            | (go_step; go_step; go_step; go_step; go_step; go_step; refine pcInner_any HLB.out.1 HB46.out HSB.out.1 hasn (by omega) HPTH.out H20.out ?_)
            | (go_step; go_step; go_step; go_step; go_step; go_step; go_step; refine pcInner_any HLB.out.1 HB46.out HSB.out.1 hasn (by omega) HPTH.out H20.out ?_)
            | (go_step; go_step; go_step; go_step; go_step; go_step; go_step; go_step; refine pcInner_any HLB.out.1 HB46.out HSB.out.1 hasn (by omega) HPTH.out H20.out ?_)
            | (go_step; go_step; go_step; go_step; go_step; go_step; go_step; go_step; go_step; refine pcInner_any HLB.out.1 HB46.out HSB.out.1 hasn (by omega) HPTH.out H20.out ?_)
          intros
          rename_i w7 HR
          obtain ⟨w7, rfl⟩ : ∃ q, q = w7 := ⟨_, rfl⟩
          have HBN5 : Hid (Below w5.heap.size w5 w7) := Lib.hid (HB6.out.trans (HR.out.mono HB6.out.size))
          have hdn : H.drop (a + sn) = subL bf (i + 1) (t.p.2.drop (i + 1)) := by
            rw [← List.drop_drop, HZ.out.2, List.drop_left' (by rw [List.length_map, ← HSN.out])]
          have HDN := Lib.hid hdn
          clear hdn HR
          go_wp2_with fail
          go_roundw
          case measure => simp [intOf]; omega
          case rel => exact ⟨i + 1, a + sn, hlt, by go_num, by go_num, hasn, HDN, HBN5⟩
      · obtain rfl : i = pn := by omega
        have hpnl : t.p.2.length ≤ i := by
          show (t.pts.map Pt.p).length ≤ i
          rw [List.length_map, HPV.out.2.1, ← ((HTS.out.ok t (List.mem_of_getElem? HTN.out.1))).ts.len]; exact Nat.le_refl _
        have hae : a = bn := by
          have h := HDP.out
          rw [List.drop_of_length_le hpnl, subL] at h
          have h2 := congrArg List.length h
          have h3 := HBN.out
          rw [List.length_drop] at h2
          simp at h2
          omega
        subst hae
        have HBE : Hid (Below w.heap.size w wr) := Lib.hid (HB2.out.trans (hb3r.mono HB2.out.size))
        clear hb3r
        go_wp2_with fail
        go_ret
        exact ⟨by simp, HBE.out⟩

/-! ### Qq -/
/-- The replacements that were found build the same once more. -/
theorem BldOk.again {ks : List Kp2} {T : List Tpl} {n : Nat} {os : Osv} {H X : List Blt} (h : BldOk ks T n os H 0 X) (hd : DrT ks T) (h4 : T.length ≤ 4) {t : Tpl} (hn : T[n]? = some t) : BldOk ks T n (diffD H X) H 0 X := by
  obtain ⟨H', e', X', h'⟩ := hd.bldOk h4 hn (diffD H X)
  have e1 := h'.h0.symm.trans h.h0
  injection e1 with _ e1
  subst e1
  have e2 := h'.h1.symm.trans (h.back rfl)
  injection e2 with e2 e3
  subst e2 e3
  exact h'

set_option maxHeartbeats 8000000 in
theorem prefabBack_any (A : Option Addr) (n c B : Nat) (l : List Int) (x : Int) (oA : Option Addr) (on oc : Nat) (ovs : List Ov) (w : World) (hr : Rd w B 1 A n (l.map (Value.int .i64))) (hn : n = l.length) (hnc : n ≤ c) (hc : c ≤ 9223372036854775807) (hz : ∀ z ∈ l, (Lit.int .i64 z).wf = true) (hB : B ≤ w.heap.size) (ho : OvsOk w B oA on oc ovs) :
    Calls Try.prog 12 #[.slice A n c, .int .i64 x, .slice oA on oc] w fun e w' => e = .returned (.bool true) ∧ Below w.heap.size w w' := by
  have HKD := Lib.hid (kindsC_any A n c B l w hr hn hnc hc hz hB)
  have HPF := Lib.hid (fun (kA : Option Addr) (kn kc : Nat) (ks : List Kd) (wx : World) (hb : Below w.heap.size w wx) (hk : KsY wx 0 kA kn kc ks) (hone : ∀ k ∈ ks, oneF k.nm k.fds = 0) (h16 : kn ≤ 16) => prefabs_any A n c B l wx (hr.below (hb.mono hB)) hn hnc hc hz (Nat.le_trans hB hb.size) hk hone h16)
  have HBF := Lib.hid builds_any
  have HBW := Lib.hid below_any
  have HOV := Lib.hid ho
  have hocap := ho.cap
  have hocap2 := ho.cap2
  clear hr hn hz ho
  go_enter Try.func12, Try.ntmps12
  go_wp2_with fail
  (with_reducible refine HKD.out.mono ?_)
  clear HKD
  rintro e w1 ⟨kA, kn, kc, ks, rfl, HK, hb1⟩
  have HB1 := Lib.hid hb1
  have hkn4 := HK.out.2.2.2.2
  clear hb1
  go_wp2_with fail
  (with_reducible refine (HPF.out kA kn kc ks w1 HB1.out HK.out.1 (gen_one HK.out.2.1) (by omega)).mono ?_)
  clear HPF
  rintro e w2 ⟨TA, tn, tc, ts, rfl, HT, hb2⟩
  have HB2 : Hid (Below w.heap.size w w2) := Lib.hid (HB1.out.trans (hb2.mono HB1.out.size))
  have HK2 : Hid (KsY w2 0 kA kn kc ks) := Lib.hid (HK.out.1.keep (F := []) (Kx.of_below (B := 0) hb2) (by simp) (by simp))
  have ht1 := HT.out.2.1
  have ht4 := HT.out.2.2
  have htcap := HT.out.1.y.cap
  have htcap2 := HT.out.1.y.cap2
  have HV : Hid (TplV ks ts) := Lib.hid (HT.out.1.tplV (HK.out.2.1.check (by rw [List.length_map, ← HK.out.2.2.1]; exact hkn4)) ht4)
  clear hb2
  go_wp2_with fail
  (with_reducible refine (HBW.out x tn w2 (by omega) (by omega)).mono ?_)
  clear HBW
  rintro e w3 ⟨rfl, rfl⟩
  obtain ⟨w3, rfl⟩ : ∃ q, q = w2 := ⟨_, rfl⟩
  obtain ⟨nn, hnn⟩ : ∃ nn : Nat, x % (tn : Int) = nn := ⟨(x % (tn : Int)).toNat, by have := Int.emod_nonneg x (show (tn : Int) ≠ 0 by omega); omega⟩
  have hnt : nn < tn := by have := Int.emod_lt_of_pos x (show (0 : Int) < tn by omega); omega
  rw [hnn]
  clear hnn
  obtain ⟨t, htn⟩ : ∃ t, ts[nn]? = some t := ⟨_, List.getElem?_eq_getElem (by have := HT.out.1.len; omega)⟩
  have htp : (ts.map Pf.p)[nn]? = some t.p := by rw [List.getElem?_map, htn]; rfl
  have hlen4 : (ts.map Pf.p).length ≤ 4 := by rw [List.length_map, ← HT.out.1.len]; exact ht4
  obtain ⟨H, e9, X, hbo⟩ := HT.out.1.dr.bldOk hlen4 htp (ovs.map Ov.p)
  have HTS : Hid (PfsY w3 0 TA tn tc ts) := Lib.hid HT.out.1.y
  have HBO := Lib.hid hbo
  have HDR := Lib.hid (And.intro HT.out.1.dr (And.intro hlen4 htp))
  have HBLD : Hid (∀ (wx : World) (os : Osv) (e' : Int) (X' : List Blt), Below w3.heap.size w3 wx → buildF (ks.map Kd.p) (ts.map Pf.p) 20 nn os = (e', X') → ∀ (pA : Option Addr) (pn pc : Nat) (pl : List Ov), OvsOk wx wx.heap.size pA pn pc pl → pl.map Ov.p = os → Calls Try.prog 25 #[.slice kA kn kc, .slice TA tn tc, .int .i64 nn, .slice pA pn pc] wx (BldP wx ks (e', X'))) := Lib.hid fun wx os e' X' hb he pA pn pc pl hp hpe => by
    have h := pfbuild_any (B := wx.heap.size) ((HK2.out.keep (F := []) (Kx.of_below (B := 0) hb) (by simp) (by simp)).ok_) ((HTS.out.keep (F := []) (Kx.of_below (B := 0) hb) (by simp) (by simp) (by simp) (by simp) (by simp)).ok_) HV.out hnt hp
    rw [hpe, he] at h
    exact h
  have HDF : Hid (∀ (wx : World) (os : Osv) (base wn wc : Nat) (WA : Option Addr) (lw : List Bt), Below w3.heap.size w3 wx → BuI wx base ks WA wn wc lw → lw.map Bt.p = X → BldOk (ks.map Kd.p) (ts.map Pf.p) nn os H 0 X → Calls Try.prog 62 #[.slice kA kn kc, .slice TA tn tc, .int .i64 nn, .slice WA wn wc] wx fun e w' => Below wx.heap.size wx w' ∧ ∃ (A : Option Addr) (m c : Nat) (l : List Ov), e = .returned (.tuple #[.slice A m c, .int .i64 0]) ∧ Hid (OvI w' wx.heap.size A m c l ∧ l.map Ov.p = diffD H X)) := Lib.hid fun wx os base wn wc WA lw hb h1 h2 h3 =>
    diffB_any (B := wx.heap.size) ((HK2.out.keep (F := []) (Kx.of_below (B := 0) hb) (by simp) (by simp)).ok_) ((HTS.out.keep (F := []) (Kx.of_below (B := 0) hb) (by simp) (by simp) (by simp) (by simp) (by simp)).ok_) HV.out hnt h1 h2 h3
  have HCN : Hid (∀ (wx : World) (os : Osv) (pA : Option Addr) (pn pc : Nat) (pl : List Ov), Below w3.heap.size w3 wx → OvsOk wx wx.heap.size pA pn pc pl → BldOk (ks.map Kd.p) (ts.map Pf.p) nn (pl.map Ov.p) H 0 X → Calls Try.prog 63 #[.slice kA kn kc, .slice TA tn tc, .int .i64 nn, .slice pA pn pc] wx fun e w' => Below wx.heap.size wx w' ∧ ∃ (A : Option Addr) (m c : Nat) (l : List Ov), e = .returned (.tuple #[.slice A m c, .int .i64 0]) ∧ Hid (OvI w' wx.heap.size A m c l ∧ l.map Ov.p = diffD H X)) := Lib.hid fun wx os pA pn pc pl hb h1 h2 => by
    refine (clean_any (B := wx.heap.size) ((HK2.out.keep (F := []) (Kx.of_below (B := 0) hb) (by simp) (by simp)).ok_) ((HTS.out.keep (F := []) (Kx.of_below (B := 0) hb) (by simp) (by simp) (by simp) (by simp) (by simp)).ok_) HV.out hnt h1 h2).mono fun e w' h => ?_
    obtain ⟨h3, h4⟩ := h
    rcases h4 with ⟨h5, _⟩ | ⟨_, h5⟩
    · exact absurd rfl h5
    · exact ⟨h3, h5⟩
  have HOV3 : Hid (∀ wx, Below w3.heap.size w3 wx → OvsOk wx wx.heap.size oA on oc ovs) := Lib.hid fun wx hb => by
    have h1 := HOV.out.below ((HB2.out.trans (hb.mono HB2.out.size)).mono hB)
    exact (OvsY.of_ok (B := wx.heap.size) h1 h1.lo).ok_
  clear htn htp hlen4 hbo HT HK HK2 HTS HV HOV
  go_wp2_with fail
  (with_reducible refine (HBLD.out w3 _ _ _ (Below.refl _ _) HBO.out.h1 oA on oc ovs (HOV3.out w3 (Below.refl _ _)) rfl).mono ?_)
  rintro e w4 ⟨hb4, hor⟩
  have HB4 := Lib.hid hb4
  clear hb4
  rcases hor with ⟨h0, rfl⟩ | ⟨h0, bA, bn, bc, lb, rfl, HLB0⟩
  · have h0 : e9 ≠ 0 := h0
    have t0 : (e9 != 0) = true := by simp [h0]
    clear HBLD HDF HCN HOV3 HBO
    go_wp2_with fail
    (with_reducible refine (HBF.out _).mono ?_)
    rintro e w5 ⟨rfl, hb5⟩
    have HB5 : Hid (Below w3.heap.size w3 w5) := Lib.hid (HB4.out.trans (hb5.mono HB4.out.size))
    clear hb5
    go_wp2_with fail
    (with_reducible refine (HBF.out _).mono ?_)
    rintro e w6 ⟨rfl, hb6⟩
    have HB6 : Hid (Below w.heap.size w w6) := Lib.hid (HB2.out.trans ((HB5.out.trans (hb6.mono HB5.out.size)).mono HB2.out.size))
    clear hb6
    go_wp2_with fail
    go_ret
    exact ⟨rfl, HB6.out⟩
  · have h0 : e9 = 0 := h0
    subst h0
    have HLB : Hid (BuI w4 w3.heap.size ks bA bn bc lb ∧ lb.map Bt.p = X) := HLB0
    clear HLB0
    have hbcap := own_cap2 HLB.out.1.own
    have hbc1 := hbcap.1
    have hbc2 := hbcap.2
    clear hbcap
    go_wp2_with fail
    (with_reducible refine (HBF.out _).mono ?_)
    clear HBF
    rintro e w5 ⟨rfl, hb5⟩
    have HB5 : Hid (Below w3.heap.size w3 w5) := Lib.hid (HB4.out.trans (hb5.mono HB4.out.size))
    have HLB5 : Hid (BuI w5 w3.heap.size ks bA bn bc lb) := Lib.hid (HLB.out.1.keep hb5)
    clear hb5
    go_wp2_with fail
    (with_reducible refine (HDF.out w5 _ _ _ _ _ _ HB5.out HLB5.out HLB.out.2 HBO.out).mono ?_)
    rintro e w6 ⟨hb6, dA, dm, dc, ld, rfl, HD⟩
    have HB6 : Hid (Below w3.heap.size w3 w6) := Lib.hid (HB5.out.trans (hb6.mono HB5.out.size))
    have HLB6 : Hid (BuI w6 w3.heap.size ks bA bn bc lb) := Lib.hid (HLB5.out.keep hb6)
    have hdon : dm ≤ on := by
      have h1 := HD.out.1.len
      have h2 := congrArg List.length HD.out.2
      rw [List.length_map] at h2
      have h3 := HBO.out.le rfl
      rw [List.length_map, ← (HOV3.out w3 (Below.refl _ _)).len] at h3
      omega
    have hdcap := own_cap2 HD.out.1.own
    have hdc1 := hdcap.1
    have hdc2 := hdcap.2
    clear hb6 hdcap HLB5
    go_wp2_with fail
    (with_reducible refine (HCN.out w6 [] oA on oc ovs HB6.out (HOV3.out w6 HB6.out) HBO.out).mono ?_)
    rintro e w7 ⟨hb7, cA, cm, cc, lc, rfl, HC⟩
    have HB7 : Hid (Below w3.heap.size w3 w7) := Lib.hid (HB6.out.trans (hb7.mono HB6.out.size))
    have HLB7 : Hid (BuI w7 w3.heap.size ks bA bn bc lb) := Lib.hid (HLB6.out.keep hb7)
    have HD7 : Hid (OvI w7 w5.heap.size dA dm dc ld ∧ ld.map Ov.p = diffD H X) := Lib.hid ⟨HD.out.1.keepB hb7, HD.out.2⟩
    have hcd : cm = dm := by
      have h1 := HD.out.1.len
      have h2 := congrArg List.length (HD.out.2.trans HC.out.2.symm)
      rw [List.length_map, List.length_map] at h2
      have h3 := HC.out.1.len
      omega
    subst hcd
    have hccap := own_cap2 HC.out.1.own
    have hcc1 := hccap.1
    have hcc2 := hccap.2
    have HAG : Hid (BldOk (ks.map Kd.p) (ts.map Pf.p) nn (diffD H X) H 0 X) := Lib.hid (HBO.out.again HDR.out.1 HDR.out.2.1 HDR.out.2.2)
    have t1 : decide ((on : Int) < (cm : Int)) = false := by simp; omega
    have t2 : ((cm : Int) != (cm : Int)) = false := by simp
    clear hb7 hccap HLB6 HD HDF HOV3 HBO HDR
    go_wp2_with fail
    (with_reducible refine (HBLD.out w7 _ _ _ HB7.out HAG.out.h1 dA cm dc ld HD7.out.1.y.ok_ HD7.out.2).mono ?_)
    rintro e w8 ⟨hb8, hor⟩
    have HB8 : Hid (Below w3.heap.size w3 w8) := Lib.hid (HB7.out.trans (hb8.mono HB7.out.size))
    rcases hor with ⟨h9, _⟩ | ⟨_, o1A, o1n, o1c, lo1, rfl, HO0⟩
    · exact absurd rfl h9
    · have HO1 : Hid (BuI w8 w7.heap.size ks o1A o1n o1c lo1 ∧ lo1.map Bt.p = X) := HO0
      have HLB8 : Hid (BuI w8 w3.heap.size ks bA bn bc lb) := Lib.hid (HLB7.out.keep hb8)
      have HC8 : Hid (OvI w8 w6.heap.size cA cm cc lc ∧ lc.map Ov.p = diffD H X) := Lib.hid ⟨HC.out.1.keepB hb8, HC.out.2⟩
      clear hb8 HO0 HLB7 HC HD7 t1 t2
      go_wp2_with fail
      (with_reducible refine (HBLD.out w8 _ _ _ HB8.out HAG.out.h1 cA cm cc lc HC8.out.1.y.ok_ HC8.out.2).mono ?_)
      clear HBLD
      rintro e w9 ⟨hb9, hor⟩
      have HB9 : Hid (Below w3.heap.size w3 w9) := Lib.hid (HB8.out.trans (hb9.mono HB8.out.size))
      rcases hor with ⟨h9, _⟩ | ⟨_, o2A, o2n, o2c, lo2, rfl, HO0⟩
      · exact absurd rfl h9
      · have HO2 : Hid (BuI w9 w8.heap.size ks o2A o2n o2c lo2 ∧ lo2.map Bt.p = X) := HO0
        have HO19 : Hid (BuI w9 w7.heap.size ks o1A o1n o1c lo1 ∧ lo1.map Bt.p = X) := Lib.hid ⟨HO1.out.1.keep hb9, HO1.out.2⟩
        have HLB9 : Hid (BuI w9 w3.heap.size ks bA bn bc lb) := Lib.hid (HLB8.out.keep hb9)
        have HC9 : Hid (OvI w9 w6.heap.size cA cm cc lc ∧ lc.map Ov.p = diffD H X) := Lib.hid ⟨HC8.out.1.keepB hb9, HC8.out.2⟩
        clear hb9 HO0 HLB8 HC8 HO1
        go_wp2_with fail
        (with_reducible refine (HCN.out w9 [] cA cm cc lc HB9.out HC9.out.1.y.ok_ (by rw [HC9.out.2]; exact HAG.out)).mono ?_)
        clear HCN
        rintro e wa ⟨hba, gA, gm, gc, lg, rfl, HG⟩
        have HBA : Hid (Below w3.heap.size w3 wa) := Lib.hid (HB9.out.trans (hba.mono HB9.out.size))
        have hgm : gm = cm := by
          have h1 := HC9.out.1.len
          have h2 := congrArg List.length (HG.out.2.trans HC9.out.2.symm)
          rw [List.length_map, List.length_map] at h2
          have h3 := HG.out.1.len
          omega
        subst hgm
        have hgcap := own_cap2 HG.out.1.own
        have hgc1 := hgcap.1
        have hgc2 := hgcap.2
        have HLBA : Hid (BuI wa w3.heap.size ks bA bn bc lb ∧ lb.map Bt.p = X) := Lib.hid ⟨HLB9.out.keep hba, HLB.out.2⟩
        have HO1A : Hid (BuI wa w7.heap.size ks o1A o1n o1c lo1 ∧ lo1.map Bt.p = X) := Lib.hid ⟨HO19.out.1.keep hba, HO19.out.2⟩
        have HO2A : Hid (BuI wa w8.heap.size ks o2A o2n o2c lo2 ∧ lo2.map Bt.p = X) := Lib.hid ⟨HO2.out.1.keep hba, HO2.out.2⟩
        have HSB : Hid (∀ (wx : World) (base pn pc : Nat) (pA : Option Addr) (lp : List Bt), Below wa.heap.size wa wx → BuI wa base ks pA pn pc lp → lp.map Bt.p = X → Calls Try.prog 64 #[.slice pA pn pc, .slice bA bn bc] wx fun e w' => e = .returned (.bool true) ∧ Below wx.heap.size wx w') := Lib.hid fun wx base pn pc pA lp hb h1 h2 => by
          have h := sameBuilt_any (h1.keep hb).okB (HLBA.out.1.keep hb).okB
          rw [decide_eq_true (h2.trans HLBA.out.2.symm)] at h
          exact h
        clear hba hgcap HLB9 HC9 HO19 HO2 HAG HLB
        go_wp2_with fail
        (with_reducible refine (HSB.out wa _ _ _ _ _ (Below.refl _ _) HO1A.out.1 HO1A.out.2).mono ?_)
        rintro e wb ⟨rfl, hbb⟩
        have HBB := Lib.hid hbb
        clear hbb
        go_wp2_with fail
        (with_reducible refine (HSB.out wb _ _ _ _ _ HBB.out HO2A.out.1 HO2A.out.2).mono ?_)
        rintro e wd ⟨rfl, hbd⟩
        have HBD : Hid (Below w.heap.size w wd) := Lib.hid (HB2.out.trans ((HBA.out.trans ((HBB.out.trans (hbd.mono HBB.out.size)).mono HBA.out.size)).mono HB2.out.size))
        clear hbd
        go_wp2_with fail
        go_ret
        exact ⟨by simp, HBD.out⟩
end Go.Proofs.Ytnidcmhfbkdioaa
