/-
  Worlds and templates, the shared contracts: slices.Equal and Clone of ints, Stream.Next, Below. Conditions: what is read can be read.
-/
import Derived.Test.YtnidcmhfbkdioaaKh
import Derived.Test.YtnidcmhfbkdioaaKi
import Derived.Test.YtnidcmhfbkdioaaSq
namespace Go.Proofs.Ytnidcmhfbkdioaa
open Go.RowKit
set_option maxRecDepth 100000

theorem take_eq_succ {α : Type} {l l' : List α} {k : Nat} {x y : α} (hx : l[k]? = some x) (hy : l'[k]? = some y) (h : l.take k = l'.take k) (e : x = y) : l.take (k + 1) = l'.take (k + 1) := by
  rw [List.take_add_one, List.take_add_one, hx, hy, h, e]
theorem ne_of_at {α : Type} {l l' : List α} {k : Nat} {x y : α} (hx : l[k]? = some x) (hy : l'[k]? = some y) (e : x ≠ y) : l ≠ l' := by
  rintro rfl; rw [hx] at hy; injection hy with hy; exact e hy
def RetS (w0 : World) (t : TypeId) (size n : Nat) (xs : List Value) (e : Ending) (w' : World) : Prop :=
  ∃ A c, e = .returned (.slice A n c) ∧ w'.ownsRow w0.heap.size t size (.slice A n c) n xs ∧ Below w0.heap.size w0 w'
theorem intsV_get (l : List Int) (k : Nat) (h : k < l.length) : (l.map (Value.int .i64))[k]? = some (.int .i64 (l.getD k 0)) := by
  simp [List.getD, List.getElem?_eq_getElem h]

set_option maxHeartbeats 800000 in
theorem equalInts_any (A A' : Option Addr) (n c n' c' B : Nat) (l l' : List Int) (w : World) (hn : n = l.length) (hn' : n' = l'.length) (hm : n ≤ 9223372036854775807) (hr : Rd w B 1 A n (l.map (Value.int .i64))) (hr' : Rd w B 1 A' n' (l'.map (Value.int .i64))) :
    Calls Try.prog 27 #[.slice A n c, .slice A' n' c'] w fun e w' => e = .returned (.bool (decide (l = l'))) ∧ ∃ m, w.drewN m = w' := by
  by_cases h0 : n = n'
  · subst h0
    have t0 : ((n : Int) != n) = false := by simp
    have HN := Lib.hid hn
    have HN' := Lib.hid hn'
    have HR := Lib.hid hr
    have HR' := Lib.hid hr'
    clear hn hn' hr hr'
    go_enter Try.func27, Try.ntmps27
    go_wp2_with fail
    go_loopw [13] (fun i wr => ∃ k : Nat, k ≤ n ∧ i = .int .i64 k ∧ l.take k = l'.take k ∧ ∃ m, w.drewN m = wr) (fun i _ => n - (intOf i).toNat)
    case atStart => exact ⟨0, Nat.zero_le _, rfl, rfl, 0, rfl⟩
    case round =>
      obtain ⟨k, hk, rfl, hT, m, rfl⟩ := hrel
      have HT := Lib.hid hT
      clear hT
      by_cases hlt : k < n
      · have e1 := HN.out
        have e2 := HN'.out
        have hx := intsV_get l k (by omega)
        have hy := intsV_get l' k (by omega)
        have hx' : l[k]? = some (l.getD k 0) := by simp [List.getD, List.getElem?_eq_getElem (show k < l.length by omega)]
        have hy' : l'[k]? = some (l'.getD k 0) := by simp [List.getD, List.getElem?_eq_getElem (show k < l'.length by omega)]
        generalize l.getD k 0 = x at hx hx'
        generalize l'.getD k 0 = y at hy hy'
        obtain ⟨b, o, rfl, _, c0⟩ := HR.out.at1 hlt hx
        obtain ⟨b', o', rfl, _, c1⟩ := HR'.out.at1 hlt hy
        have HX := Lib.hid hx'
        have HY := Lib.hid hy'
        have hk0 : (0 : Int) ≤ k := by omega
        have hkn : (k : Int) < n := by omega
        clear e1 e2 hx hy hx' hy'
        go_wp2_with fail
        go_quiet (fail)
        by_cases hxy : x = y
        · have t1 : (x != y) = false := by simp [hxy]
          have HXY := Lib.hid hxy
          clear hxy
          go_wp2_with fail
          go_roundw
          case measure => simp [intOf]; omega
          case rel => exact ⟨k + 1, by omega, by go_num, take_eq_succ HX.out HY.out HT.out HXY.out, _, rfl⟩
        · have t1 : (x != y) = true := by simp; omega
          have HXY := Lib.hid hxy
          clear hxy
          go_wp2_with fail
          go_ret
          exact ⟨ret_b (by simp [ne_of_at HX.out HY.out HXY.out]), _, (World.drewN_drewN _ _ _).symm⟩
      · go_wp2
        go_ret
        obtain rfl : k = n := by omega
        have h1 := HT.out
        rw [List.take_of_length_le (by rw [← HN.out]; omega), List.take_of_length_le (by rw [← HN'.out]; omega)] at h1
        exact ⟨ret_b (by simp [h1]), _, rfl⟩
  · have t0 : ((n : Int) != n') = true := by simp; omega
    have HE : Hid (l ≠ l') := Lib.hid (by rintro rfl; omega)
    clear hn hn' hr hr' h0
    go_enter Try.func27, Try.ntmps27
    go_wp2_with fail
    go_ret
    exact ⟨ret_b (by simp [HE.out]), 0, rfl⟩
theorem Gb.trans {a b c : World} {g : Nat} (h : a.grownBy b (some g)) (k : b.grownBy c (some g)) : a.grownBy c (some g) :=
  ⟨k.os.trans h.os, k.tape.trans h.tape, k.output.trans h.output, Nat.le_trans h.size k.size, fun i hi hne => (k.block i (Nat.lt_of_lt_of_le hi h.size) hne).trans (h.block i hi hne)⟩
theorem Gb.drewN {a w : World} {row : Option Nat} (h : a.grownBy w row) (n : Nat) : a.grownBy (w.drewN n) row := ⟨h.os, h.tape, h.output, h.size, h.block⟩
theorem Gb.drew {a w : World} {row : Option Nat} (h : a.grownBy w row) : a.grownBy w.drew row := ⟨h.os, h.tape, h.output, h.size, h.block⟩
theorem Gb.set_ {a w : World} {g : Nat} (h : a.grownBy w (some g)) (i : Nat) (u : Value) : a.grownBy (w.setCell ⟨g, i, none⟩ u) (some g) :=
  ⟨h.os, h.tape, h.output, by simpa [World.setCell] using h.size, fun i hi hne => (Below.heap_setCell w _ u i (by intro e; exact hne (by rw [e]))).trans (h.block i hi hne)⟩
theorem Gb.below {a w : World} {g B : Nat} (h : a.grownBy w (some g)) (hg : B ≤ g) (hB : B ≤ a.heap.size) : Below B a w :=
  ⟨h.os, h.tape, h.output, h.size, fun k hk => h.block k (by omega) (by intro e; injection e; omega)⟩

/-- A stream of numbers at block s. -/
def StrSt (w : World) (B s : Nat) : Prop :=
  ∃ (A : Option Addr) (n c : Nat) (zs : List Int), Bk w s 189 #[.slice A n c] ∧ n = zs.length ∧ n ≤ c ∧ c ≤ 9223372036854775807 ∧ Rd w B 1 A n (zs.map (Value.int .i64)) ∧ ∀ z ∈ zs, (Lit.int .i64 z).wf = true
theorem StrSt.below {w w' : World} {B s : Nat} (h : StrSt w B s) (hb : Below w.heap.size w w') (hB : B ≤ w.heap.size) : StrSt w' B s := by
  obtain ⟨A, n, c, zs, h1, h2, h3, h4, h5, h6⟩ := h
  exact ⟨A, n, c, zs, h1.below hb h1.lt, h2, h3, h4, h5.below (hb.mono hB), h6⟩

theorem cut1 {w : World} {B n c : Nat} {A : Option Addr} {z : Value} {zs : List Value} (h : Rd w B 1 A (n + 1) (z :: zs)) (hc : n + 1 ≤ c) : ∃ b o, A = some ⟨b, o, none⟩ ∧ b < B ∧ w.cell? ⟨b, o, none⟩ = some z ∧
    Rd w B 1 (if c = 1 then some ⟨b, o, none⟩ else some ⟨b, o + 1, none⟩) n zs := by
  obtain ⟨b, o, rfl, hb, hcell⟩ := h.2 (by omega)
  refine ⟨b, o, rfl, hb, hcell 0 z rfl, by have := h.1; simpa using this, fun hn => ?_⟩
  rw [if_neg (by omega)]
  refine ⟨b, o + 1, rfl, hb, fun j u hu => ?_⟩
  have := hcell (j + 1) u (by simpa using hu)
  rw [show o + 1 + j = o + (j + 1) by omega]
  exact this

set_option maxHeartbeats 800000 in
theorem next_any (s B : Nat) (N : Int) (w : World) (hst : StrSt w B s) (hB : B ≤ s) (h1 : 1 ≤ N) (h2 : N ≤ 1099511627776) :
    Calls Try.prog 98 #[.pointer (some ⟨s, 0, none⟩), .int .i64 N] w fun e w' => (∃ v, e = .returned (.int .i64 v) ∧ 0 ≤ v ∧ v < N ∧ StrSt w' B s ∧ w.grownBy w' (some s)) := by
  obtain ⟨A, n, c, zs, hbk, hn, hnc, hc, hr, hwf⟩ := hst
  have c0 : w.cell? ⟨s, 0, none⟩ = some (.slice A n c) := hbk.cell 0
  cases zs with
  | nil =>
    obtain rfl : n = 0 := by simpa using hn
    have HR := Lib.hid hr
    clear hn hr hwf
    go_enter Try.func98, Try.ntmps98
    go_wp2_with fail
    go_ret
    exact ⟨0, rfl, by omega, by omega, ⟨A, 0, c, [], hbk, rfl, hnc, hc, HR.out, by simp⟩, World.grownBy.refl w _⟩
  | cons z zs =>
    obtain ⟨n, rfl⟩ : ∃ m, n = m + 1 := ⟨zs.length, by simpa using hn⟩
    have hn' : n = zs.length := by simpa using hn
    obtain ⟨b, o, rfl, hbB, cz, hr'⟩ := cut1 (z := .int .i64 z) (zs := zs.map (Value.int .i64)) hr hnc
    have hz := hwf z (List.mem_cons_self ..)
    have H := Lib.hid (fun (wx : World) => below_any z N wx h1 (by omega))
    have HN := Lib.hid hn'
    have hne : s ≠ b := by omega
    have hne' : b ≠ s := by omega
    have t0 : ((n : Int) + 1 == 0) = false := by simp; omega
    have f0 := hbk.frozen 0
    have HWF := Lib.hid hwf
    have HRR := Lib.hid hr'
    have hm0 := Int.emod_nonneg z (show N ≠ 0 by omega)
    have hm1 := Int.emod_lt_of_pos z (show 0 < N by omega)
    obtain ⟨V, hV⟩ : ∃ V, V = z % N := ⟨_, rfl⟩
    rw [← hV] at hm0 hm1 H
    clear hn hn' hz hwf hr hr' hV
    go_enter Try.func98, Try.ntmps98
    go_wp2_with fail
    all_goals
      refine (H.out _).mono ?_
      rintro e w1 ⟨rfl, rfl⟩
      go_wp2_with fail
      go_ret
    · obtain rfl : n = 0 := by omega
      refine ⟨V, rfl, hm0, hm1, ⟨_, 0, 0, zs, hbk.set_ 0 _, HN.out, by omega, by omega, ?_, fun i hi => HWF.out i (List.mem_cons_of_mem _ hi)⟩, Gb.set_ (World.grownBy.refl w _) 0 _⟩
      have : zs = [] := List.eq_nil_of_length_eq_zero HN.out.symm
      subst this
      exact Rd.nil_ _
    · have hc1 : c ≠ 1 := by omega
      have hr2 := HRR.out
      rw [if_neg hc1] at hr2
      refine ⟨V, rfl, hm0, hm1, ⟨_, n, c - 1, zs, hbk.set_ 0 _, HN.out, by omega, by omega, ?_, fun i hi => HWF.out i (List.mem_cons_of_mem _ hi)⟩, Gb.set_ (World.grownBy.refl w _) 0 _⟩
      exact hr2.keep fun k hk => Below.heap_setCell _ _ _ _ (by show k ≠ s; omega)

theorem StrSt.bk {w : World} {B s : Nat} (h : StrSt w B s) : ∃ cs, Bk w s 189 cs := by obtain ⟨A, n, c, zs, h1, _⟩ := h; exact ⟨_, h1⟩
set_option maxHeartbeats 800000 in
theorem cloneInts_any (A : Option Addr) (n c B : Nat) (xs : List Value) (w : World) (hr : Rd w B 1 A n xs) (h1 : ∀ u ∈ xs, u.oneCell' = true) (hB : B ≤ w.heap.size) (hs : n * 8 ≤ 140737488355328) :
    Calls Try.prog 103 #[.slice A n c] w (RetS w 3 1 n xs) := by
  obtain ⟨i0, hi0, hz0, hz1, hz2⟩ := info_parts T.info3
  have hn := fun wx => Lib.run_eql_slice_nil (P := Try.prog) wx 30 3 A n c 0 0 Try.underlying30
  cases A with
  | none =>
    obtain rfl : n = 0 := by
      rcases Nat.eq_zero_or_pos n with h | h
      · exact h
      · obtain ⟨_, _, h, _⟩ := hr.2 h; cases h
    obtain rfl : xs = [] := List.eq_nil_of_length_eq_zero (by simpa using hr.1)
    go_enter Try.func103, Try.ntmps103
    go_wp2_with fail
    go_ret
    exact ⟨none, 0, by simp, World.ownsRow_nil _ _ _ _, Below.refl _ _⟩
  | some a =>
    go_enter Try.func103, Try.ntmps103
    go_wp2_with
      (at_builtin
       go_must (refine wpList_append_rd _ rfl (.tmp 5) (.tmp 6) _ rfl w.heap.size 3 i0 (.int .i64 0) 1 8 Try.underlying30 hi0 hz0 hz1 hz2 rfl (by decide) (.slice (some ⟨w.heap.size, 0, none⟩) 0 0) 0 [] rfl (World.ownsRow_lit w #[] 0 (Nat.le_refl _) (by decide) rfl) B (some a) n c xs rfl (hr.below ((Below.refl B w).alloc hB _)) h1 ?c2 ?c3 ?c4 ?_)
       case c2 => unfold maxLen; omega
       case c3 => omega
       case c4 => simp
       intro A' c' w1 hown1 hg1 hat1)
    go_ret
    simp only [Nat.zero_add, List.nil_append] at hown1
    exact ⟨A', c', by simp, hown1, ((Below.refl _ _).alloc (Nat.le_refl _) _).grown hg1 (by simp) (by simp [Value.ownBlock])⟩

/-- A slice that lies in a block of its type. -/
def Tr (w : World) (e : TypeId) (size : Nat) (A : Option Addr) (n : Nat) (xs : List Value) : Prop :=
  xs.length = n * size ∧ (0 < n → ∃ b o cs, A = some ⟨b, o, none⟩ ∧ Bk w b e cs ∧ ∀ j u, xs[j]? = some u → cs[o + j]? = some u)
theorem Tr.rd {w : World} {e : TypeId} {size n : Nat} {A : Option Addr} {xs : List Value} (h : Tr w e size A n xs) : Rd w w.heap.size size A n xs := by
  refine ⟨h.1, fun hn => ?_⟩
  obtain ⟨b, o, cs, hA, hb, hc⟩ := h.2 hn
  exact ⟨b, o, hA, hb.lt, fun j u hu => (hb.cell _).trans (hc j u hu)⟩
theorem Tr.of_own {w : World} {base : Nat} {e : TypeId} {size n c : Nat} {A : Option Addr} {xs : List Value} (h : w.ownsRow base e size (.slice A n c) n xs) : Tr w e size A n xs := by
  refine ⟨h.1, fun hn => ?_⟩
  rcases h.2 with ⟨hv, rfl⟩ | ⟨g, cap, cur, hv, _, hb, _, _, hs, ht⟩
  · omega
  · injection hv with hA _ _
    refine ⟨g, 0, cur, hA, hb, fun j u hu => ?_⟩
    rw [Nat.zero_add, ← Array.getElem?_toList]
    rw [← ht, List.getElem?_take] at hu
    split at hu
    · exact hu
    · cases hu
theorem Bk.drew {w : World} {g : Nat} {t : TypeId} {cs : Array Value} (h : Bk w g t cs) : Bk w.drew g t cs := h
theorem below_dn {B : Nat} {w w' : World} (h : Below B w w') (q : Nat) : Below B w (w'.drewN q) := h.trans ⟨rfl, rfl, rfl, Nat.le_refl _, fun _ _ => rfl⟩
theorem own_ty {w : World} {base size n g : Nat} {e : TypeId} {v : Value} {xs : List Value} (h : w.ownsRow base e size v n xs) (hv : v.ownBlock = some g) : ∃ cs, Bk w g e cs := by
  rcases h.2 with ⟨hv', _⟩ | ⟨g', cap, cur, hv', _, hb, _⟩
  · subst hv'; simp [Value.ownBlock] at hv
  · subst hv'
    have e : g' = g := by simpa [Value.ownBlock] using hv
    subst e
    exact ⟨_, hb⟩
theorem own_cap2 {w : World} {base size n c : Nat} {e : TypeId} {A : Option Addr} {xs : List Value} (h : w.ownsRow base e size (.slice A n c) n xs) : n ≤ c ∧ c ≤ 9223372036854775807 := by
  rcases h.2 with ⟨hv, _⟩ | ⟨g', cap, cur, hv, _, _, h1, h2, _⟩
  · injection hv; omega
  · injection hv with _ _ h3
    unfold maxLen at h2
    omega
theorem Tr.fq {w w' : World} {e : TypeId} {size n : Nat} {A : Option Addr} {xs : List Value} {F : List Nat} (h : Tr w e size A n xs) (hq : Fq F w w') (hF : ∀ b ∈ F, ∃ t cs, Bk w b t cs ∧ t ≠ e) : Tr w' e size A n xs := by
  refine ⟨h.1, fun hn => ?_⟩
  obtain ⟨b, o, cs, hA, hb, hc⟩ := h.2 hn
  refine ⟨b, o, cs, hA, (hq.low b hb.lt fun hbF => ?_).trans hb, hc⟩
  obtain ⟨t, cs', hb', ht⟩ := hF b hbF
  exact Bk.ne_ hb' hb ht rfl
theorem Tr.below {w w' : World} {e : TypeId} {size n : Nat} {A : Option Addr} {xs : List Value} (h : Tr w e size A n xs) (hb : Below w.heap.size w w') : Tr w' e size A n xs :=
  h.fq (Fq.of_below (F := []) hb) fun b hb => by cases hb
theorem Tr.grown {w w' : World} {e : TypeId} {size n : Nat} {A : Option Addr} {xs : List Value} {row : Option Nat} (h : Tr w e size A n xs) (hg : w.grownBy w' row) (hr : ∀ b, row = some b → ∃ t cs, Bk w b t cs ∧ t ≠ e) : Tr w' e size A n xs := by
  refine ⟨h.1, fun hn => ?_⟩
  obtain ⟨b, o, cs, hA, hb, hc⟩ := h.2 hn
  refine ⟨b, o, cs, hA, hb.grown hg fun hbF => ?_, hc⟩
  obtain ⟨t, cs', hb', ht⟩ := hr b hbF.symm
  exact Bk.ne_ hb' hb ht rfl
end Go.Proofs.Ytnidcmhfbkdioaa
