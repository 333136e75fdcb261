/-
  The closures of tourref4.Numbers: text 124 and list 125. Conditions: what is read can be read.
-/
import Derived.Test.YtnidcmhfbkdioaaAd
import Derived.Test.YtnidcmhfbkdioaaPy
namespace Go.Proofs.Ytnidcmhfbkdioaa
open Go.RowKit
set_option maxRecDepth 100000

/-- The list that grows in the variable gl. -/
structure NuI (w : World) (gl base : Nat) (A : Option Addr) (n c : Nat) (xs : List Int) : Prop where
  bk : Bk w gl 30 #[.slice A n c]
  own : w.ownsRow base 3 1 (.slice A n c) n (xs.map (Value.int .i64))
  len : n = xs.length
/-- Only the variable, the list's row and what is new have turned. -/
structure NK (B : Nat) (w w' : World) : Prop where
  os : w'.os = w.os
  tape : w'.tape = w.tape
  output : w'.output = w.output
  kx : Kx B [3, 30] w w'
section
variable {w w' w'' wB : World} {B gl base n c n' c' : Nat} {A A' : Option Addr} {xs ys : List Int}
theorem NK.refl : NK B w w := ⟨rfl, rfl, rfl, Kx.refl⟩
theorem NK.trans (h : NK B w w') (k : NK B w' w'') : NK B w w'' := ⟨k.os.trans h.os, k.tape.trans h.tape, k.output.trans h.output, h.kx.trans k.kx⟩
theorem NK.below (h : NK w.heap.size w w') : Below w.heap.size w w' := ⟨h.os, h.tape, h.output, h.kx.size, fun k hk => h.kx.low k hk hk⟩
theorem NK.of_below (h : Below w.heap.size w w') : NK B w w' := ⟨h.os, h.tape, h.output, h.size, fun k _ h1 => h.block k h1, fun k t cs h1 _ => (h.block k h1.lt).trans h1⟩
theorem NuI.below (h : NuI w gl base A n c xs) (hb : Below w.heap.size w w') : NuI w' gl base A n c xs := ⟨h.bk.below hb h.bk.lt, own_keepU h.own hb, h.len⟩
/-- The list grows: the appended row is stored in the variable. -/
theorem NuI.push (h : NuI w gl base A n c xs) (hw : Below w.heap.size w w') (ho : wB.ownsRow base 3 1 (.slice A' n' c') n' ((xs ++ ys).map (Value.int .i64))) (hg : w'.grownBy wB (Value.slice A n c).ownBlock) (hn : n' = n + ys.length) (hB : B ≤ base) (hB2 : B ≤ gl) :
    NuI (wB.setCell ⟨gl, 0, none⟩ (.slice A' n' c')) gl base A' n' c' (xs ++ ys) ∧ NK B w (wB.setCell ⟨gl, 0, none⟩ (.slice A' n' c')) := by
  have h' := h.below hw
  have hk : Bk wB gl 30 #[.slice A n c] := h'.bk.grown hg (fun e => own_ne h'.own h'.bk (by decide) e.symm)
  refine ⟨⟨hk.set_ 0 _, own_farU ho hk (by decide) 0 _, by rw [hn, h.len, List.length_append]⟩, ?_⟩
  refine NK.trans (NK.of_below hw) ⟨hg.os, hg.tape, hg.output, ?_⟩
  exact ((Kx.refl (B := B)).grown h'.own hg hB (by simp)).set hk hB2 (by simp) 0 _
end

set_option maxHeartbeats 4000000 in
theorem ntext_any (gl base n c : Nat) (A : Option Addr) (xs : List Int) (s : ByteArray) (B : Nat) (w : World) (h : NuI w gl base A n c xs) (hB : B ≤ base) (hB2 : B ≤ gl) (hsz : n + 1 + s.size ≤ 1000000000) (hbw : base ≤ w.heap.size) :
    Calls Try.prog 124 #[.string s, .pointer (some ⟨gl, 0, none⟩)] w fun e w' => ∃ (A' : Option Addr) (c' : Nat), e = .returned (.tuple #[]) ∧ Hid (NuI w' gl base A' (n + 1 + s.size) c' (xs ++ textF s)) ∧ Hid (NK B w w') := by
  obtain ⟨i3, hi3, hz30, hz31, hz32⟩ := info_parts T.info3
  have HI := Lib.hid h
  have c0 : w.cell? ⟨gl, 0, none⟩ = some (.slice A n c) := h.bk.cell 0
  obtain ⟨z, hz⟩ : ∃ z, z = s.size := ⟨_, rfl⟩
  rw [← hz] at hsz ⊢
  have HZ := Lib.hid hz
  clear h hz
  have hlen : (Value.string s).cells = #[Value.string s] := rfl
  clear hlen
  go_enter Try.func124, Try.ntmps124
  have hls : (s.size : Int) = z := by rw [HZ.out]
  go_wp2_with
    (at_builtin
     go_must (refine wpList_append_one _ rfl (.tmp 4) (.tmp 7) _ rfl base 3 i3 (.int .i64 0) 1 8 Try.underlying30 hi3 hz30 hz31 hz32 rfl (by decide) (.slice A n c) n _ rfl (HI.out.own.alloc _) w.heap.size 1 3 #[.int .i64 z] rfl (Bk.new _ _ _) rfl ?c1 (n + 1) rfl ?c2 ?c3 ?c4 ?_)
     case c1 => simp [Value.oneCell']
     case c2 => unfold maxLen; omega
     case c3 => omega
     case c4 => simp; omega
     intro g1 c1 w1 hown1 hg1 hat1
     have hk1 := (HI.out.bk.alloc (.cells #[.int .i64 z] 3)).grown hg1 (fun e => own_ne HI.out.own HI.out.bk (by decide) e.symm)
     have cB : w1.cell? ⟨gl, 0, none⟩ = some (.slice A n c) := hk1.cell 0
     have fB : w1.frozen? ⟨gl, 0, none⟩ = false := hk1.frozen 0)
  have hp := HI.out.push (B := B) (n' := n + 1) (ys := [(z : Int)]) ((Below.refl _ _).alloc (Nat.le_refl _) _) (by rw [List.map_append]; exact hown1) hg1 rfl hB hB2
  obtain ⟨W1, hW1⟩ : ∃ W, W = w1.setCell ⟨gl, 0, none⟩ (.slice (some ⟨g1, 0, none⟩) (n + 1) c1) := ⟨_, rfl⟩
  rw [← hW1] at hp
  have HI1 := Lib.hid hp.1
  have HK1 := Lib.hid hp.2
  have hbw1 : base ≤ W1.heap.size := Nat.le_trans hbw hp.2.kx.size
  clear hp hown1 hg1 hat1 hk1 c0
  go_upto_region 1 with fail
  rw [← hW1]
  clear hW1 cB fB
  go_wp2_with fail
  have hbl := byteL_length s
  rw [← HZ.out] at hbl
  have HBL := Lib.hid hbl
  clear hbl
  go_loopw [11] (fun kv wr => ∃ (k c' : Nat) (A' : Option Addr), k ≤ z ∧ kv = .int .i64 k ∧ Hid (NuI wr gl base A' (n + 1 + k) c' (xs ++ [(z : Int)] ++ (byteL s).take k)) ∧ Hid (NK B w wr)) (fun kv _ => z - (intOf kv).toNat)
  case atStart => exact ⟨0, c1, _, Nat.zero_le _, rfl, by simpa using HI1, HK1⟩
  case round =>
    clear HI1
    obtain ⟨k, c', A', hk, rfl, HN, HQ⟩ := hrel
    obtain ⟨wo, rfl⟩ : ∃ z, z = wr := ⟨_, rfl⟩
    have hbo : base ≤ wo.heap.size := Nat.le_trans hbw HQ.out.kx.size
    by_cases hlt : k < z
    · obtain ⟨x, hx⟩ : ∃ x, (byteL s)[k]? = some x := ⟨_, List.getElem?_eq_getElem (by have := HBL.out; omega)⟩
      obtain ⟨hx0, hx2⟩ := byteL_rng s x (List.mem_of_getElem? hx)
      have hix : ∀ wz : World, (Instr.index 9 (.string s) (.int .i64 (k : Int))).run Try.prog wz = .ok (.int .u8 x) wz := fun wz => by
        have hks : k < s.size := by rw [← HZ.out]; exact hlt
        rw [run_index_string wz 9 s .i64 k Try.underlying9, dif_pos ⟨by omega, by omega⟩]
        have h1 : (byteL s)[k]? = some ((s[k].toNat : Nat) : Int) := by
          unfold byteL
          rw [List.getElem?_map, Array.getElem?_toList, Array.getElem?_eq_getElem (by exact hks)]
          rfl
        rw [hx] at h1
        injection h1 with h1
        rw [h1]
        rfl
      have hwx : IntKind.i64.wrap x = x := by rw [IntKind.wrap_i64]; omega
      have HX := Lib.hid hx
      clear hx
      go_upto_region 4 with fail
      have s5 : wo.drew.cell? ⟨gl, 0, none⟩ = some (.slice A' (n + 1 + k) c') := HN.out.bk.cell 0
      refine wp_region_E (S := fun wz => wz.cell? ⟨gl, 0, none⟩ = some (.slice A' (n + 1 + k) c')) (last := 7) (by kernel_rfl) ?_
      refine wpAnyE_val (i := 0) (v := .slice A' (n + 1 + k) c') (d := some 14) rfl rfl (by kernel_rfl) (by kernel_rfl) (by kernel_rfl) (by kernel_rfl) (fun _ _ _ h => h) (Or.inl ⟨by rfl, fun w hS => by go_simp⟩) s5 ?_
      (try simp only [Act.put, List.setIfInBounds_toArray, List.set_cons_zero, List.set_cons_succ])
      refine wpAnyE_val (i := 1) (v := .string s) (d := some 15) rfl rfl (by kernel_rfl) (by kernel_rfl) (by kernel_rfl) (by kernel_rfl) (fun _ _ _ h => h) (Or.inl ⟨by rfl, fun w hS => by go_simp⟩) s5 ?_
      (try simp only [Act.put, List.setIfInBounds_toArray, List.set_cons_zero, List.set_cons_succ])
      refine wpAnyE_val (i := 2) (v := .int .i64 k) (d := some 16) rfl rfl (by kernel_rfl) (by kernel_rfl) (by kernel_rfl) (by kernel_rfl) (fun _ _ _ h => h) (Or.inl ⟨by rfl, fun w hS => by go_simp⟩) s5 ?_
      (try simp only [Act.put, List.setIfInBounds_toArray, List.set_cons_zero, List.set_cons_succ])
      refine wpAnyE_val (i := 3) (v := .int .u8 x) (d := some 17) rfl rfl (by kernel_rfl) (by kernel_rfl) (by kernel_rfl) (by kernel_rfl) (fun _ _ _ h => h) (Or.inl ⟨by rfl, fun w hS => by go_simp⟩) s5 ?_
      (try simp only [Act.put, List.setIfInBounds_toArray, List.set_cons_zero, List.set_cons_succ])
      refine wpAnyE_val (i := 4) (v := .int .i64 x) (d := some 18) rfl rfl (by kernel_rfl) (by kernel_rfl) (by kernel_rfl) (by kernel_rfl) (fun _ _ _ h => h) (Or.inl ⟨by rfl, fun w hS => by go_simp⟩) s5 ?_
      (try simp only [Act.put, List.setIfInBounds_toArray, List.set_cons_zero, List.set_cons_succ])
      refine wpAnyE_one (i := 5) rfl (by kernel_rfl) rfl ?_
      go_simp
      (try refine ⟨(HN.out.bk.alloc _).cell 0, ?_⟩)
      (try simp only [Act.put, List.setIfInBounds_toArray, List.set_cons_zero, List.set_cons_succ])
      refine wpAnyE_if (i := 6) rfl (by kernel_rfl) rfl ?_
      refine step_append_one rfl (.tmp 14) (.tmp 19) 30 rfl base 3 i3 (.int .i64 0) 1 8 Try.underlying30 hi3 hz30 hz31 hz32 rfl (by decide) (.slice A' (n + 1 + k) c') (n + 1 + k) _ rfl (World.ownsRow.alloc (World.ownsRow.drew HN.out.own) _) wo.heap.size 1 3 #[.int .i64 x] rfl (Bk.new _ _ _) rfl ?c1 (n + 1 + k + 1) rfl ?c2 ?c3 ?c4 ?_
      case c1 => simp [Value.oneCell']
      case c2 => unfold maxLen; omega
      case c3 => omega
      case c4 => simp; omega
      intro g8 c8 w8 hown8 hg8 hat8
      have hk8 : Bk w8 gl 30 #[.slice A' (n + 1 + k) c'] := ((Bk.drew HN.out.bk).alloc (.cells #[.int .i64 x] 3)).grown hg8 (fun e => own_ne HN.out.own HN.out.bk (by decide) e.symm)
      have c82 : w8.cell? ⟨gl, 0, none⟩ = some (.slice A' (n + 1 + k) c') := hk8.cell 0
      have f82 : w8.frozen? ⟨gl, 0, none⟩ = false := hk8.frozen 0
      refine ⟨fun _ => c82, ?_⟩
      (try simp only [Act.put, List.setIfInBounds_toArray])
      refine wpAnyE_one (i := 7) rfl (by kernel_rfl) rfl ?_
      go_simp
      refine wpAnyE_done (by kernel_rfl) ?_ _
      have hp := HN.out.push (B := B) (n' := n + 1 + k + 1) (w' := wo.drew.alloc (.cells #[.int .i64 x] 3)) (ys := [x]) (((Below.refl _ _).drew).alloc (Nat.le_refl _) _) (by rw [List.map_append]; exact hown8) hg8 rfl hB hB2
      obtain ⟨wN, hwN⟩ : ∃ W, W = w8.setCell ⟨gl, 0, none⟩ (.slice (some ⟨g8, 0, none⟩) (n + 1 + k + 1) c8) := ⟨_, rfl⟩
      rw [← hwN] at hp
      have HNn : Hid (NuI wN gl base (some ⟨g8, 0, none⟩) (n + 1 + (k + 1)) c8 (xs ++ [(z : Int)] ++ (byteL s).take (k + 1))) := Lib.hid (by
        have := hp.1
        rw [List.take_add_one, HX.out]
        rw [List.append_assoc] at this
        exact this)
      have HQn : Hid (NK B w wN) := Lib.hid (HQ.out.trans hp.2)
      try rw [← hwN]
      clear hp hown8 hg8 hat8 hk8 c82 f82 s5 hwN HN HQ hix
      go_wp2_with fail
      go_roundw
      case rel => exact ⟨k + 1, c8, _, by omega, by go_num, HNn, HQn⟩
      case measure => simp [intOf]; omega
    · obtain rfl : k = z := by omega
      go_wp2_with fail
      (try simp only [Exit.inBlock, Exit.then])
      refine bodyPost_end (results_none rfl _ _ _) rfl ?_
      refine ⟨A', c', rfl, Lib.hid ?_, HQ⟩
      have h1 := HN.out
      rw [List.take_of_length_le (by rw [HBL.out]; exact Nat.le_refl _)] at h1
      have e : xs ++ [(k : Int)] ++ byteL s = xs ++ textF s := by unfold textF; rw [← HZ.out]; simp
      rw [← e]
      exact h1

set_option maxHeartbeats 2000000 in
theorem growG_any (N : Nat) (w : World) (h1 : 1 ≤ N) (h2 : N ≤ 1000000000) :
    Calls Try.prog 101 #[.slice none 0 0, .int .i64 N] w fun e w' => ∃ (g c : Nat), e = .returned (.slice (some ⟨g, 0, none⟩) 0 c) ∧ Hid (w'.ownsRow w.heap.size 3 1 (.slice (some ⟨g, 0, none⟩) 0 c) 0 []) ∧ Below w.heap.size w w' := by
  obtain ⟨i0, hi0, hz0, hs0, hb0⟩ := info_parts T.info3Y
  have hold : (Builtin.firstCells i0.size 0 (.slice none 0 0)).run Try.prog w.drew = .ok ([] : List Value).toArray w.drew := run_firstCells_none w.drew i0.size 0 0 0
  have hrz : ∀ ty, (Builtin.append_ #[30, 3] ty #[.slice none 0 0, .int .i64 (N : Int)]).run Try.prog w =
      .ok (.slice (some ⟨w.heap.size, 0, none⟩) N (grownCap w N 0 3)) (w.drew.alloc (.cells (Builtin.zeroCells (Value.int .i64 0).cells N ++ Builtin.zeroCells (Value.int .i64 0).cells (grownCap w N 0 3 - N)) 3)) := fun ty => by
    have h := Lib.run_append_grow_zeros w 30 3 ty 3 i0 (.int .i64 0) .i64 .i64 Try.underlying30 Try.underlying3 hi0 hz0 none 0 0 [] hold N (by omega) (by omega) (by omega) (by omega) (by rw [hb0]; omega) (growslice_fits (by omega) (by rw [hb0]; omega))
    simpa using h
  have hGn : N ≤ grownCap w N 0 3 := grownCap_ge w _ _ _
  have hGm : grownCap w N 0 3 ≤ maxLen := grownCap_le_maxLen w N 0 3 (by unfold maxLen; omega)
  obtain ⟨G, hG⟩ : ∃ G, G = grownCap w N 0 3 := ⟨_, rfl⟩
  rw [← hG] at hrz hGn hGm
  have hG63 : G ≤ 9223372036854775807 := by unfold maxLen at hGm; omega
  have h1z : ¬ ((N : Int) < 0) := by omega
  have h2z : (N : Int) > 0 := by omega
  have HPO : Hid ((w.drew.alloc (.cells (Builtin.zeroCells (Value.int .i64 0).cells N ++ Builtin.zeroCells (Value.int .i64 0).cells (G - N)) 3)).ownsRow w.heap.size 3 1 (.slice (some ⟨w.heap.size, 0, none⟩) 0 G) 0 [] ∧ Below w.heap.size w (w.drew.alloc (.cells (Builtin.zeroCells (Value.int .i64 0).cells N ++ Builtin.zeroCells (Value.int .i64 0).cells (G - N)) 3))) := Lib.hid
    ⟨⟨rfl, .inr ⟨_, G, _, rfl, Nat.le_refl _, heap_alloc_new w.drew _, Nat.zero_le _, hGm, by simp [Builtin.zeroCells, Value.cells]; omega, by simp⟩⟩, ((Below.refl _ _).drew).alloc (Nat.le_refl _) _⟩
  clear hold hG hi0 hz0 hs0 hb0
  go_enter Try.func101, Try.ntmps101
  go_wp2_with (at_builtin; refine Lib.wpList_append_run _ rfl _ _ _ _ rfl _ _ rfl rfl _ _ (hrz _) ?_)
  all_goals
    go_ret
    exact ⟨_, _, rfl, Lib.hid HPO.out.1, HPO.out.2⟩

set_option maxHeartbeats 4000000 in
theorem concatG_any {w : World} {B n c : Nat} {A : Option Addr} {l : List Sg} (hr : Rd w B 1 A n (sgCs l)) (hn : n = l.length) (hnc : n ≤ c) (hc : c ≤ 9223372036854775807) (hok : ∀ x ∈ l, SgOk w B x) (hB : B ≤ w.heap.size) (h1 : 1 ≤ (catS l).length) (h2 : (catS l).length ≤ 1000000000) :
    Calls Try.prog 28 #[.slice A n c] w fun e w' => ∃ (A' : Option Addr) (c' : Nat), e = .returned (.slice A' (catS l).length c') ∧ Hid (w'.ownsRow w.heap.size 3 1 (.slice A' (catS l).length c') (catS l).length ((catS l).map (Value.int .i64))) ∧ Below w.heap.size w w' := by
  obtain ⟨N, hN⟩ : ∃ N, N = (catS l).length := ⟨_, rfl⟩
  rw [← hN] at h1 h2 ⊢
  have HN := Lib.hid hN
  have HR := Lib.hid hr
  have HL := Lib.hid hn
  have HO := Lib.hid hok
  have HG := Lib.hid (fun wx => growG_any N wx h1 h2)
  clear hN hr hn hok
  go_enter Try.func28, Try.ntmps28
  go_wp2_with fail
  go_loopw [3, 11] (fun sv iv wr => ∃ (k t : Nat), k ≤ n ∧ iv = .int .i64 k ∧ sv = .int .i64 t ∧ t ≤ N ∧ Hid (t = (catS (l.take k)).length) ∧ Hid (Below w.heap.size w wr)) (fun _ iv _ => n - (intOf iv).toNat)
  case atStart => exact ⟨0, 0, Nat.zero_le _, rfl, rfl, Nat.zero_le _, Lib.hid rfl, Lib.hid (Below.refl _ _)⟩
  case round =>
    obtain ⟨k, t, hk, rfl, rfl, htN, HT, HW⟩ := hrel
    by_cases hlt : k < n
    · obtain ⟨x, hx⟩ : ∃ x, l[k]? = some x := ⟨_, List.getElem?_eq_getElem (by have := HL.out; omega)⟩
      have hgx : (sgCs l)[k]? = some (.slice x.A x.n x.c) := by unfold sgCs; rw [List.getElem?_map, hx]; rfl
      obtain ⟨b, o, rfl, hbb, q0⟩ := (HR.out.below (HW.out.mono hB)).at1 hlt hgx
      have hxo := HO.out x (List.mem_of_getElem? hx)
      have hxc := hxo.cap
      have hxc2 := hxo.cap2
      have ht2 : t + x.n = (catS (l.take (k + 1))).length := by rw [catS_take hx, List.length_append, ← HT.out, hxo.len]
      have htN2 : t + x.n ≤ N := by rw [ht2, HN.out]; exact catS_le l (k + 1)
      have HT2 := Lib.hid ht2
      have hkz : (k : Int) < n := by omega
      have hkz0 : (0 : Int) ≤ k := by omega
      have hneg : ¬ ((t : Int) + x.n < 0) := by omega
      clear hx hgx hxo ht2 hbb
      generalize x.A = xA at *
      generalize x.n = xn at *
      generalize x.c = xc at *
      go_wp2_with fail
      go_roundw
      case measure => simp [intOf]; omega
      case rel => exact ⟨k + 1, t + xn, by omega, by go_num, by go_num, htN2, HT2, HW⟩
    · obtain rfl : k = n := by omega
      have htn : t = N := by rw [HT.out, HN.out, List.take_of_length_le (by rw [← HL.out]; exact Nat.le_refl _)]
      subst htn
      clear HT
      go_wp2_with fail
      (with_reducible refine (HG.out _).mono ?_)
      rintro e w2 ⟨g, gc, rfl, HO2, hb2⟩
      have HB2 : Hid (Below w.heap.size w w2) := Lib.hid (HW.out.trans (hb2.mono HW.out.size))
      have HO3 : Hid (w2.ownsRow w.heap.size 3 1 (.slice (some ⟨g, 0, none⟩) 0 gc) 0 []) := Lib.hid (own_monoY HO2.out HW.out.size)
      clear HO2 hb2 HW
      obtain ⟨i0, hi0, hz0, hs0, hb0⟩ := info_parts T.info3Y
      go_wp2_with fail
      go_loopw [6, 27] (fun sv iv wr => ∃ (j m c1 : Nat) (A1 : Option Addr), j ≤ k ∧ iv = .int .i64 j ∧ sv = .slice A1 m c1 ∧ m ≤ t ∧ Hid (m = (catS (l.take j)).length ∧ wr.ownsRow w.heap.size 3 1 (.slice A1 m c1) m ((catS (l.take j)).map (Value.int .i64))) ∧ Hid (Below w.heap.size w wr)) (fun _ iv _ => k - (intOf iv).toNat)
      case atStart => exact ⟨0, 0, gc, some ⟨g, 0, none⟩, Nat.zero_le _, rfl, rfl, Nat.zero_le _, Lib.hid ⟨rfl, HO3.out⟩, HB2⟩
      case round =>
        clear HO3 HB2
        obtain ⟨j, m, c1, A1, hj, rfl, rfl, hmt, HM, HW⟩ := hrel
        by_cases hlt : j < k
        · obtain ⟨x, hx⟩ : ∃ x, l[j]? = some x := ⟨_, List.getElem?_eq_getElem (by have := HL.out; omega)⟩
          have hgx : (sgCs l)[j]? = some (.slice x.A x.n x.c) := by unfold sgCs; rw [List.getElem?_map, hx]; rfl
          obtain ⟨b, o, rfl, hbb, q0⟩ := (HR.out.below (HW.out.mono hB)).at1 hlt hgx
          have hxo := (HO.out x (List.mem_of_getElem? hx)).below (HW.out.mono hB)
          have hxc := hxo.cap
          have hxc2 := hxo.cap2
          have hm2 : m + x.n = (catS (l.take (j + 1))).length := by rw [catS_take hx, List.length_append, ← HM.out.1, hxo.len]
          have hmN2 : m + x.n ≤ t := by rw [hm2, HN.out]; exact catS_le l (j + 1)
          have HM2 := Lib.hid (And.intro hm2 (catS_take hx))
          have HRX := Lib.hid hxo.rd
          have hkz : (j : Int) < k := by omega
          have hkz0 : (0 : Int) ≤ j := by omega
          have hwr : w.heap.size ≤ wr.heap.size := HW.out.size
          clear hx hgx hxo hm2 hbb
          generalize hxs : x.xs = xs at *
          clear hxs
          generalize x.A = xA at *
          generalize x.n = xn at *
          generalize x.c = xc at *
          go_wp2_with
            (at_builtin
             go_must (refine wpList_append_rd _ rfl (.tmp 31) (.tmp 32) _ rfl w.heap.size 3 i0 (.int .i64 0) 1 8 Try.underlying30 hi0 hz0 hs0 hb0 rfl (by decide) (.slice A1 m c1) m ((catS (l.take j)).map (Value.int .i64)) rfl HM.out.2 B xA xn xc (xs.map (Value.int .i64)) rfl HRX.out ?c1 ?c2 ?c3 hwr ?_)
             case c1 => (intro u hu; obtain ⟨z, _, rfl⟩ := List.mem_map.1 hu; rfl)
             case c2 => unfold maxLen; omega
             case c3 => omega
             intro A8 c8 w8 hown8 hg8 _)
          have HM8 : Hid (m + xn = (catS (l.take (j + 1))).length ∧ w8.ownsRow w.heap.size 3 1 (.slice A8 (m + xn) c8) (m + xn) ((catS (l.take (j + 1))).map (Value.int .i64))) := Lib.hid ⟨HM2.out.1, by rw [HM2.out.2, List.map_append]; exact hown8⟩
          have HB8 : Hid (Below w.heap.size w w8) := Lib.hid (HW.out.trans ⟨hg8.os, hg8.tape, hg8.output, hg8.size, fun q hq => hg8.block q (by omega) (fun e => by have := (HM.out.2.lt q e.symm).1; omega)⟩)
          clear hown8 hg8
          go_wp2_with fail
          go_roundw
          case measure => simp [intOf]; omega
          case rel => exact ⟨j + 1, m + xn, c8, A8, by omega, by go_num, rfl, hmN2, HM8, HB8⟩
        · obtain rfl : j = k := by omega
          have hmn : m = t := by rw [HM.out.1, HN.out, List.take_of_length_le (by rw [← HL.out]; exact Nat.le_refl _)]
          subst hmn
          have HE : Hid (wr.ownsRow w.heap.size 3 1 (.slice A1 m c1) m ((catS l).map (Value.int .i64))) := Lib.hid (by have h := HM.out.2; rw [List.take_of_length_le (by rw [← HL.out]; exact Nat.le_refl _)] at h; exact h)
          clear HM
          go_wp2_with fail
          go_ret
          exact ⟨A1, c1, rfl, HE, HW.out⟩

set_option maxHeartbeats 4000000 in
theorem nlist_any (gl base n c B0 yn yc : Nat) (A YA : Option Addr) (xs ys : List Int) (B : Nat) (w : World) (h : NuI w gl base A n c xs) (hy : Rd w B0 1 YA yn (ys.map (Value.int .i64))) (hyn : yn = ys.length) (hyc : yn ≤ yc) (hyc2 : yc ≤ 9223372036854775807) (hB0 : B0 ≤ w.heap.size) (hB : B ≤ base) (hB2 : B ≤ gl) (hsz : n + 1 + yn ≤ 1000000000) (hbw : base ≤ w.heap.size) :
    Calls Try.prog 125 #[.slice YA yn yc, .pointer (some ⟨gl, 0, none⟩)] w fun e w' => ∃ (A' : Option Addr) (c' : Nat), e = .returned (.tuple #[]) ∧ Hid (NuI w' gl base A' (n + 1 + yn) c' (xs ++ [(yn : Int)] ++ ys)) ∧ Hid (NK B w w') := by
  have HI := Lib.hid h
  have HY := Lib.hid hy
  have HYN := Lib.hid hyn
  have c0 : w.cell? ⟨gl, 0, none⟩ = some (.slice A n c) := h.bk.cell 0
  clear h hy hyn
  go_enter Try.func125, Try.ntmps125
  go_wp2_with fail
  have hl : Hid (∀ u : List Int, u = xs ++ [(yn : Int)] ++ ys → (xs ++ textF ByteArray.empty = xs ++ textF ByteArray.empty)) := Lib.hid (fun _ _ => rfl)
  clear hl
  obtain ⟨W2, hW2⟩ : ∃ W, W = (w.alloc (.cells #[.int .i64 (yn : Int)] 3)).alloc (.cells #[.slice A n c, .slice (some ⟨w.heap.size, 0, none⟩) 1 1, .slice YA yn yc] 30) := ⟨_, rfl⟩
  have hs2 : W2.heap.size = w.heap.size + 2 := by rw [hW2]; simp
  have hb2 : Below w.heap.size w W2 := by rw [hW2]; exact Below.al (Below.al (Below.refl _ _) _) _
  have hbk3 : Bk W2 w.heap.size 3 #[.int .i64 (yn : Int)] := by rw [hW2]; exact (Bk.new _ _ _).alloc _
  have hbk30 : Bk W2 (w.heap.size + 1) 30 #[.slice A n c, .slice (some ⟨w.heap.size, 0, none⟩) 1 1, .slice YA yn yc] := by rw [hW2]; exact Bk.two _ _ _ _
  have hI2 := HI.out.below hb2
  have hcap := own_cap2 hI2.own
  obtain ⟨l, hl⟩ : ∃ l : List Sg, l = [⟨A, n, c, xs⟩, ⟨some ⟨w.heap.size, 0, none⟩, 1, 1, [(yn : Int)]⟩, ⟨YA, yn, yc, ys⟩] := ⟨_, rfl⟩
  have hcat : catS l = xs ++ [(yn : Int)] ++ ys := by rw [hl]; simp [catS]
  have hclen : (catS l).length = n + 1 + yn := by have h1 := HYN.out; have h2 := HI.out.len; rw [hcat]; simp only [List.length_append, List.length_cons, List.length_nil]; omega
  have HC := Lib.hid (concatG_any (w := W2) (B := W2.heap.size) (n := 3) (c := 3) (A := some ⟨w.heap.size + 1, 0, none⟩) (l := l) (by rw [hl]; exact Rd.ofBkV hbk30 rfl) (by rw [hl]; rfl) (by omega) (by omega) (fun x hx => by
    rw [hl] at hx
    simp only [List.mem_cons, List.not_mem_nil, or_false] at hx
    rcases hx with rfl | rfl | rfl
    · exact ⟨Rd.of_own hI2.own, HI.out.len, hcap.1, hcap.2⟩
    · exact ⟨Rd.ofBkV hbk3 rfl, rfl, Nat.le_refl _, by show 1 ≤ 9223372036854775807; omega⟩
    · exact ⟨(HY.out.below (hb2.mono hB0)).more (by omega), HYN.out, hyc, hyc2⟩) (Nat.le_refl _) (by rw [hclen]; omega) (by rw [hclen]; omega))
  rw [hclen, hcat] at HC
  have HI2 := Lib.hid hI2
  have HB2 := Lib.hid hb2
  have HS2 := Lib.hid hs2
  rw [← hW2]
  clear hW2 hs2 hb2 hbk3 hbk30 hI2 hcap hl hcat hclen c0
  refine HC.out.mono ?_
  clear HC
  rintro e w3 ⟨A3, c3, rfl, hown, hb3⟩
  have hI3 := HI2.out.below hb3
  have f0 : w3.frozen? ⟨gl, 0, none⟩ = false := hI3.bk.frozen 0
  have d0 : w3.cell? ⟨gl, 0, none⟩ = some (.slice A n c) := hI3.bk.cell 0
  have HI3 := Lib.hid hI3
  have hown' := own_mono hown.out (show base ≤ W2.heap.size by have := HS2.out; omega)
  have HO := Lib.hid hown'
  have HB3 : Hid (Below w.heap.size w w3) := Lib.hid (HB2.out.trans (hb3.mono (by have := HS2.out; omega)))
  clear hI3 hown hown' hb3
  go_wp2_with fail
  (try simp only [Exit.inBlock, Exit.then])
  refine bodyPost_end (results_none rfl _ _ _) rfl ?_
  refine ⟨A3, c3, rfl, Lib.hid ⟨HI3.out.bk.set_ 0 _, own_farU HO.out HI3.out.bk (by decide) 0 _, ?_⟩, Lib.hid ((NK.of_below HB3.out).trans ⟨rfl, rfl, rfl, (Kx.refl).set HI3.out.bk hB2 (by simp) 0 _⟩)⟩
  rw [HI.out.len, HYN.out]
  simp
  omega
end Go.Proofs.Ytnidcmhfbkdioaa
