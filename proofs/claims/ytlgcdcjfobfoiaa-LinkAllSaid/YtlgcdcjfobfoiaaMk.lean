/-
  The contracts of tourmake.Below, Stream.Next and Inputs. Conditions: numbers that fit their kinds.
-/
import Derived.Test.YtlgcdcjfobfoiaaRdr
namespace Go.Proofs.Ytlgcdcjfobfoiaa
open Go.RowKit
set_option maxRecDepth 100000

theorem tmod_emod (x n : Int) (hn : 0 < n) : (x.tmod n < 0 → x.tmod n + n = x % n) ∧ (0 ≤ x.tmod n → x.tmod n = x % n) ∧ -n < x.tmod n ∧ x.tmod n < n := by
  have h1 := @Int.tmod_eq_emod x n
  have hd : ∀ (p : Prop) [Decidable p] (a b : Nat), ((if p then a else b : Nat) : Int) = if p then (a : Int) else b := fun p _ a b => by split <;> rfl
  rw [hd] at h1
  have h2 : n.natAbs = n := by omega
  have h3 := Int.emod_nonneg x (show n ≠ 0 by omega)
  have h4 := Int.emod_lt_of_pos x hn
  split at h1
  · refine ⟨fun h => ?_, fun h => ?_, ?_, ?_⟩ <;> omega
  · refine ⟨fun h => ?_, fun h => ?_, ?_, ?_⟩ <;> omega

set_option maxHeartbeats 800000 in
theorem below_any (x n : Int) (w : World) (_hx : (Lit.int .i64 x).wf = true) (h1 : 1 ≤ n) (h2 : n ≤ 9223372036854775807) :
    Calls Try.prog 35 #[.int .i64 x, .int .i64 n] w fun e w' => e = .returned (.int .i64 (x % n)) ∧ w = w' := by
  obtain ⟨m1, m2, m3, m4⟩ := tmod_emod x n (by omega)
  have M1 := Lib.hid m1
  have M2 := Lib.hid m2
  generalize hT : x.tmod n = T at *
  have HE : Hid (x % n = x % n) := Lib.hid rfl
  generalize x % n = E at *
  clear m1 m2 HE
  have hnz : (n == 0) = false := by simp; omega
  by_cases hT0 : T < 0
  · go_enter Try.func35, Try.ntmps35
    go_wp2
    go_ret
    exact ⟨ret_i (M1.out hT0), rfl⟩
  · go_enter Try.func35, Try.ntmps35
    go_wp2
    go_ret
    exact ⟨ret_i (M2.out (by omega)), rfl⟩

/-- A stream of numbers at block s. -/
def StrSt (w : World) (B s : Nat) : Prop :=
  ∃ (A : Option Addr) (n c : Nat) (zs : List Int), Bk w s 117 #[.slice A n c] ∧ n = zs.length ∧ n ≤ c ∧ c ≤ 9223372036854775807 ∧ Rd w B 1 A n (zs.map (Value.int .i64)) ∧ ∀ z ∈ zs, (Lit.int .i64 z).wf = true
theorem StrSt.below {w w' : World} {B s : Nat} (h : StrSt w B s) (hb : Below w.heap.size w w') (hB : B ≤ w.heap.size) : StrSt w' B s := by
  obtain ⟨A, n, c, zs, h1, h2, h3, h4, h5, h6⟩ := h
  exact ⟨A, n, c, zs, h1.below hb h1.lt, h2, h3, h4, h5.below (hb.mono hB), h6⟩

theorem cut1 {w : World} {B n c : Nat} {A : Option Addr} {z : Value} {zs : List Value} (h : Rd w B 1 A (n + 1) (z :: zs)) (hc : n + 1 ≤ c) : ∃ b o, A = some ⟨b, o, none⟩ ∧ b < B ∧ w.cell? ⟨b, o, none⟩ = some z ∧
    Rd w B 1 (if c = 1 then some ⟨b, o, none⟩ else some ⟨b, o + 1, none⟩) n zs := by
  obtain ⟨b, o, rfl, hb, hcell⟩ := h.2 (by omega)
  refine ⟨b, o, rfl, hb, hcell 0 z rfl, by have := h.1; simpa using this, fun hn => ?_⟩
  rw [if_neg (by omega)]
  refine ⟨b, o + 1, rfl, hb, fun j u hu => ?_⟩
  have := hcell (j + 1) u (by simpa using hu)
  rw [show o + 1 + j = o + (j + 1) by omega]
  exact this

set_option maxHeartbeats 800000 in
theorem next_any (s B : Nat) (N : Int) (w : World) (hst : StrSt w B s) (hB : B ≤ s) (h1 : 1 ≤ N) (h2 : N ≤ 2147483648) :
    Calls Try.prog 71 #[.pointer (some ⟨s, 0, none⟩), .int .i64 N] w fun e w' => (∃ v, e = .returned (.int .i64 v) ∧ 0 ≤ v ∧ v < N ∧ StrSt w' B s ∧ w.grownBy w' (some s)) := by
  obtain ⟨A, n, c, zs, hbk, hn, hnc, hc, hr, hwf⟩ := hst
  have c0 : w.cell? ⟨s, 0, none⟩ = some (.slice A n c) := hbk.cell 0
  cases zs with
  | nil =>
    obtain rfl : n = 0 := by simpa using hn
    have HR := Lib.hid hr
    clear hn hr hwf
    go_enter Try.func71, Try.ntmps71
    go_wp2_with fail
    go_ret
    exact ⟨0, rfl, by omega, by omega, ⟨A, 0, c, [], hbk, rfl, hnc, hc, HR.out, by simp⟩, World.grownBy.refl w _⟩
  | cons z zs =>
    obtain ⟨n, rfl⟩ : ∃ m, n = m + 1 := ⟨zs.length, by simpa using hn⟩
    have hn' : n = zs.length := by simpa using hn
    obtain ⟨b, o, rfl, hbB, cz, hr'⟩ := cut1 (z := .int .i64 z) (zs := zs.map (Value.int .i64)) hr hnc
    have hz := hwf z (List.mem_cons_self ..)
    have H := Lib.hid (fun (wx : World) => below_any z N wx hz h1 (by omega))
    have HN := Lib.hid hn'
    have hne : s ≠ b := by omega
    have hne' : b ≠ s := by omega
    have t0 : ((n : Int) + 1 == 0) = false := by simp; omega
    have f0 := hbk.frozen 0
    have HWF := Lib.hid hwf
    have HRR := Lib.hid hr'
    have hm0 := Int.emod_nonneg z (show N ≠ 0 by omega)
    have hm1 := Int.emod_lt_of_pos z (show 0 < N by omega)
    obtain ⟨V, hV⟩ : ∃ V, V = z % N := ⟨_, rfl⟩
    rw [← hV] at hm0 hm1 H
    clear hn hn' hz hwf hr hr' hV
    go_enter Try.func71, Try.ntmps71
    go_wp2_with fail
    all_goals
      refine (H.out _).mono ?_
      rintro e w1 ⟨rfl, rfl⟩
      go_wp2_with fail
      go_ret
    · obtain rfl : n = 0 := by omega
      refine ⟨V, rfl, hm0, hm1, ⟨_, 0, 0, zs, hbk.set_ 0 _, HN.out, by omega, by omega, ?_, fun i hi => HWF.out i (List.mem_cons_of_mem _ hi)⟩, Gb.set_ (World.grownBy.refl w _) 0 _⟩
      have : zs = [] := List.eq_nil_of_length_eq_zero HN.out.symm
      subst this
      exact Rd.nil_ _
    · have hc1 : c ≠ 1 := by omega
      have hr2 := HRR.out
      rw [if_neg hc1] at hr2
      refine ⟨V, rfl, hm0, hm1, ⟨_, n, c - 1, zs, hbk.set_ 0 _, HN.out, by omega, by omega, ?_, fun i hi => HWF.out i (List.mem_cons_of_mem _ hi)⟩, Gb.set_ (World.grownBy.refl w _) 0 _⟩
      exact hr2.keep fun k hk => Below.heap_setCell _ _ _ _ (by show k ≠ s; omega)

theorem StrSt.bk {w : World} {B s : Nat} (h : StrSt w B s) : ∃ cs, Bk w s 117 cs := by obtain ⟨A, n, c, zs, h1, _⟩ := h; exact ⟨_, h1⟩

/-- Inputs within their bounds, n of them, in new memory. -/
def InpsPost (w : World) (n : Nat) (e : Ending) (w' : World) : Prop := ∃ l : List Inp, l.length = n ∧ (∀ i ∈ l, ¬ i.bad) ∧ RetS w 24 3 n (inCs l) e w'

theorem T.info24' : (Try.prog.info? 24).map (fun i => (i.zero, i.size, i.bytes)) = some (some (.agg #[.int .i64 0, .int .i64 0, .int .i64 0]), 3, 24) := by kernel_rfl

set_option maxHeartbeats 1600000 in
theorem inputs_any (p : Nat) (A : Option Addr) (n c B : Nat) (zs : List Int) (w : World) (hp : p ≤ 8) (hn : n = zs.length) (hnc : n ≤ c) (hc : c ≤ 9223372036854775807) (hr : Rd w B 1 A n (zs.map (Value.int .i64))) (hB : B ≤ w.heap.size) (hwf : ∀ z ∈ zs, (Lit.int .i64 z).wf = true) :
    Calls Try.prog 36 #[.int .i64 p, .slice A n c] w (InpsPost w p) := by
  obtain ⟨i0, hi0, hz0, hz1, hz2⟩ := info_parts T.info24'
  have hst : StrSt (w.alloc (.cells #[.slice A n c] 117)) B w.heap.size := ⟨A, n, c, zs, Bk.new _ _ _, hn, hnc, hc, hr.below ((Below.refl _ _).alloc hB _), hwf⟩
  have hbw := (Below.refl w.heap.size w).alloc (Nat.le_refl _) (.cells #[.slice A n c] 117)
  clear hr hn hwf hnc hc
  go_enter Try.func36, Try.ntmps36
  go_wp2_with fail
  obtain ⟨s, hs⟩ : ∃ s, s = w.heap.size := ⟨_, rfl⟩
  have hsB : B ≤ s := by omega
  have hsw : w.heap.size ≤ s := by omega
  rw [← hs] at hst ⊢
  clear hs
  generalize w.alloc (.cells #[.slice A n c] 117) = w1 at *
  go_loopw [6, 11] (fun o i wr => ∃ (k : Nat) (A2 : Option Addr) (c2 : Nat) (l : List Inp), k ≤ p ∧ i = .int .i64 k ∧ o = .slice A2 k c2 ∧ l.length = k ∧ (∀ i ∈ l, ¬ i.bad) ∧ wr.ownsRow w.heap.size 24 3 (.slice A2 k c2) k (inCs l) ∧ StrSt wr B s ∧ Below w.heap.size w wr) (fun _ i _ => p - (intOf i).toNat)
  case atStart => exact ⟨0, none, 0, [], Nat.zero_le _, rfl, rfl, rfl, by simp, World.ownsRow_nil _ _ _ _, hst, hbw⟩
  case round =>
    obtain ⟨k, A2, c2, l, hk, rfl, rfl, hl, hg, hown, hst1, hb⟩ := hrel
    have HL := Lib.hid hl
    have HG := Lib.hid hg
    have hsz := hb.size
    clear hl hg hst hbw
    by_cases hlt : k < p
    · go_wp2_with fail
      refine (next_any s B 256 wr hst1 hsB (by decide) (by decide)).mono ?_
      rintro e w2 ⟨v1, rfl, v10, v11, hst2, hg2⟩
      have hown2 : w2.ownsRow w.heap.size 24 3 (.slice A2 k c2) k (inCs l) := hown.kept hg2 (.inr (by obtain ⟨cs, hq⟩ := hst1.bk; exact own_ne hown hq (by decide)))
      have hb2 := hb.trans (Gb.below hg2 hsw hsz)
      have hsz2 := hb2.size
      clear hg2 hown hst1
      go_wp2_with fail
      refine (next_any s B 256 w2 hst2 hsB (by decide) (by decide)).mono ?_
      rintro e w3 ⟨v2, rfl, v20, v21, hst3, hg3⟩
      have hown3 : w3.ownsRow w.heap.size 24 3 (.slice A2 k c2) k (inCs l) := hown2.kept hg3 (.inr (by obtain ⟨cs, hq⟩ := hst2.bk; exact own_ne hown2 hq (by decide)))
      have hb3 := hb2.trans (Gb.below hg3 hsw hsz2)
      have hsz3 := hb3.size
      clear hg3 hown2 hst2
      go_wp2_with fail
      refine (next_any s B 256 w3 hst3 hsB (by decide) (by decide)).mono ?_
      rintro e w4 ⟨v3, rfl, v30, v31, hst4, hg4⟩
      have hown4 : w4.ownsRow w.heap.size 24 3 (.slice A2 k c2) k (inCs l) := hown3.kept hg4 (.inr (by obtain ⟨cs, hq⟩ := hst3.bk; exact own_ne hown3 hq (by decide)))
      have hb4 := hb3.trans (Gb.below hg4 hsw hsz3)
      have hsz4 := hb4.size
      clear hg4 hown3 hst3
      go_wp2_with
        (at_builtin
         go_must (refine wpList_append_one _ rfl (.tmp 13) (.tmp 23) _ rfl w.heap.size 24 i0 (.agg #[.int .i64 0, .int .i64 0, .int .i64 0]) 3 24 Try.underlying22 hi0 hz0 hz1 hz2 rfl (by decide) (.slice A2 k c2) k (inCs l) rfl (hown4.alloc _) w4.heap.size 1 24 #[.int .i64 v1, .int .i64 (v2 - 128), .int .i64 (v3 - 128)] rfl (Bk.new _ _ _) rfl ?c1 (k + 1) rfl ?c2 ?c3 ?c4 ?_)
         case c1 => simp [Value.oneCell']
         case c2 => unfold maxLen; omega
         case c3 => omega
         case c4 => simp; omega
         intro g5 c5 w5 hown5 hg5 hat5)
      go_roundw
      case measure => simp [intOf]; omega
      case rel =>
        have hbA := (hb4.alloc hsz4 (.cells #[.int .i64 v1, .int .i64 (v2 - 128), .int .i64 (v3 - 128)] 24)).grown hg5 (by simp; omega) (fun q hq => (hown4.lt q hq).1)
        refine ⟨k + 1, some ⟨g5, 0, none⟩, c5, l ++ [⟨v1, v2 - 128, v3 - 128⟩], by omega, by go_num, rfl, by simp [HL.out], ?_, ?_, ?_, hbA⟩
        · intro i hi
          rcases List.mem_append.1 hi with hi | hi
          · exact HG.out i hi
          · simp at hi; subst hi; simp only [Inp.bad, not_or, Int.not_lt]; omega
        · rw [inCs_append]; exact hown5
        · obtain ⟨A6, n6, c6, zs6, s1, s2, s3, s4, s5, s6⟩ := hst4
          refine ⟨A6, n6, c6, zs6, (s1.alloc (.cells #[.int .i64 v1, .int .i64 (v2 - 128), .int .i64 (v3 - 128)] 24)).grown hg5 (fun e1 => own_ne hown4 s1 (by decide) e1.symm), s2, s3, s4, ?_, s6⟩
          refine (s5.below ((Below.refl B w4).alloc (by omega) (.cells #[.int .i64 v1, .int .i64 (v2 - 128), .int .i64 (v3 - 128)] 24))).keep fun b hb' => hg5.block b (by simp; omega) (fun e1 => ?_)
          have := (hown4.lt b e1.symm).1
          omega
    · go_wp2
      go_ret
      obtain rfl : k = p := by omega
      exact ⟨l, HL.out, HG.out, A2, c2, by simp, hown, hb⟩

end Go.Proofs.Ytlgcdcjfobfoiaa
