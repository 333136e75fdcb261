/-
  The contracts of game.reader's next, many, list and text where what is read was written. Conditions: the numbers can be read.
-/
import Derived.Test.YtnidcmhfbkdioaaVa
namespace Go.Proofs.Ytnidcmhfbkdioaa
open Go.RowKit
set_option maxRecDepth 100000

/-- A reader at block g of the numbers l. -/
def RI (w : World) (B g : Nat) (l : List Int) : Prop :=
  ∃ (A : Option Addr) (n c : Nat), Bk w g 299 #[.slice A n c, .bool false] ∧ n = l.length ∧ n ≤ c ∧ c ≤ 9223372036854775807 ∧ Rd w B 1 A n (l.map (Value.int .i64))
theorem RI.below {w w' : World} {B g : Nat} {l : List Int} (h : RI w B g l) (hb : Below w.heap.size w w') (hB : B ≤ w.heap.size) : RI w' B g l := by
  obtain ⟨A, n, c, h1, h2, h3, h4, h5⟩ := h
  exact ⟨A, n, c, h1.below hb h1.lt, h2, h3, h4, h5.below (hb.mono hB)⟩
theorem RI.bk {w : World} {B g : Nat} {l : List Int} (h : RI w B g l) : ∃ cs, Bk w g 299 cs := by obtain ⟨A, n, c, h1, _⟩ := h; exact ⟨_, h1⟩
theorem RI.lt {w : World} {B g : Nat} {l : List Int} (h : RI w B g l) : g < w.heap.size := by obtain ⟨cs, h1⟩ := h.bk; exact h1.lt

set_option maxHeartbeats 800000 in
theorem rnext_any (g B : Nat) (x : Int) (l : List Int) (w : World) (hst : RI w B g (x :: l)) (hB : B ≤ g) :
    Calls Try.prog 190 #[.pointer (some ⟨g, 0, none⟩)] w fun e w' => e = .returned (.int .i64 x) ∧ RI w' B g l ∧ w.grownBy w' (some g) := by
  obtain ⟨A, n, c, hbk, hn, hnc, hc, hr⟩ := hst
  obtain ⟨n, rfl⟩ : ∃ m, n = m + 1 := ⟨l.length, by simpa using hn⟩
  have hn' : n = l.length := by simpa using hn
  obtain ⟨b, o, rfl, hbB, cz, hr'⟩ := cut1 (z := .int .i64 x) (zs := l.map (Value.int .i64)) hr hnc
  have c0 : w.cell? ⟨g, 0, none⟩ = some (.slice (some ⟨b, o, none⟩) (n + 1) c) := hbk.cell 0
  have HN := Lib.hid hn'
  have hne : g ≠ b := by omega
  have hne' : b ≠ g := by omega
  have t0 : ((n : Int) + 1 == 0) = false := by simp; omega
  have f0 := hbk.frozen 0
  have HRR := Lib.hid hr'
  have HBK := Lib.hid hbk
  clear hn hn' hr hr' hbk
  go_enter Try.func190, Try.ntmps190
  go_wp2_with fail
  all_goals go_ret
  · obtain rfl : n = 0 := by omega
    refine ⟨rfl, ⟨_, 0, 0, HBK.out.set_ 0 _, HN.out, by omega, by omega, ?_⟩, Gb.set_ (World.grownBy.refl w _) 0 _⟩
    have : l = [] := List.eq_nil_of_length_eq_zero HN.out.symm
    subst this
    exact Rd.nil_ _
  · have hc1 : c ≠ 1 := by omega
    have hr2 := HRR.out
    rw [if_neg hc1] at hr2
    refine ⟨rfl, ⟨_, n, c - 1, HBK.out.set_ 0 _, HN.out, by omega, by omega, ?_⟩, Gb.set_ (World.grownBy.refl w _) 0 _⟩
    exact hr2.keep fun k hk => Below.heap_setCell _ _ _ _ (by show k ≠ g; omega)

set_option maxHeartbeats 800000 in
theorem rmany_any (g B k : Nat) (l : List Int) (w : World) (hst : RI w B g ((k : Int) :: l)) (hB : B ≤ g) (hk : k ≤ l.length) :
    Calls Try.prog 192 #[.pointer (some ⟨g, 0, none⟩)] w fun e w' => e = .returned (.int .i64 k) ∧ RI w' B g l ∧ w.grownBy w' (some g) := by
  have H := Lib.hid (rnext_any g B k l w hst hB)
  clear hst
  go_enter Try.func192, Try.ntmps192
  go_wp2_with fail
  refine H.out.mono ?_
  rintro e w1 ⟨rfl, ⟨A, n, c, hbk, hn, hnc, hc, hr⟩, hg⟩
  have c0 : w1.cell? ⟨g, 0, none⟩ = some (.slice A n c) := hbk.cell 0
  have t0 : ((k : Int) < 0) = False := by simp
  have hkn : (k : Int) ≤ n := by omega
  have HH := Lib.hid (And.intro hbk (And.intro hn (And.intro hnc (And.intro hc (And.intro hr hg)))))
  clear hbk hn hr hg H
  go_wp2_with fail
  go_ret
  obtain ⟨h1, h2, h3, h4, h5, h6⟩ := HH.out
  exact ⟨rfl, ⟨A, n, c, h1, h2, h3, h4, h5⟩, h6⟩

set_option maxHeartbeats 800000 in
theorem rlist_any (g B : Nat) (xs l : List Int) (w : World) (hst : RI w B g ((xs.length : Int) :: (xs ++ l))) (hB : B ≤ g) (hx : xs.length ≤ 1000000) :
    Calls Try.prog 193 #[.pointer (some ⟨g, 0, none⟩)] w fun e w' => ∃ (A : Option Addr) (c : Nat), e = .returned (.slice A xs.length c) ∧ w'.ownsRow w.heap.size 3 1 (.slice A xs.length c) xs.length (xs.map (Value.int .i64)) ∧ RI w' B g l ∧ w.grownBy w' (some g) := by
  have hgl := hst.lt
  have H := Lib.hid (rmany_any g B xs.length (xs ++ l) w hst hB (by simp))
  clear hst
  go_enter Try.func193, Try.ntmps193
  go_wp2_with fail
  refine H.out.mono ?_
  clear H
  rintro e w1 ⟨rfl, ⟨A, n, c, hbk, hn, hnc, hc, hr⟩, hg⟩
  obtain ⟨m, hm⟩ : ∃ m, m = xs.length := ⟨_, rfl⟩
  have hmn : m ≤ n := by rw [hn, hm]; simp
  have hw1 : w.heap.size ≤ w1.heap.size := hg.size
  have hrx : Rd w1 B 1 A m (xs.map (Value.int .i64)) := by
    refine ⟨by simp [hm], fun h0 => ?_⟩
    obtain ⟨b, o, e, h1, h2⟩ := hr.2 (by omega)
    refine ⟨b, o, e, h1, fun j u hu => h2 j u ?_⟩
    have hj : j < (xs.map (Value.int .i64)).length := (List.getElem?_eq_some_iff.1 hu).1
    rw [List.map_append, List.getElem?_append_left hj]
    exact hu
  have HC := Lib.hid (cloneInts_any A m c B (xs.map (Value.int .i64)) w1 hrx (fun u hu => by
    obtain ⟨z, _, rfl⟩ := List.mem_map.1 hu
    rfl) (by omega) (by omega))
  have c0 : w1.cell? ⟨g, 0, none⟩ = some (.slice A n c) := hbk.cell 0
  have HH := Lib.hid (And.intro hbk (And.intro hn (And.intro hr hg)))
  have HM := Lib.hid hm
  have hm1 : m ≤ 1000000 := by omega
  have hmc : m ≤ c := by omega
  rw [← hm]
  clear hbk hn hr hg hrx hm hx
  go_wp2_with fail
  refine HC.out.mono ?_
  rintro e w2 ⟨A2, c2, rfl, hown2, hb2⟩
  have hbk2 := HH.out.1.below hb2 HH.out.1.lt
  have d0 : w2.cell? ⟨g, 0, none⟩ = some (.slice A n c) := hbk2.cell 0
  have d1 := hbk2.frozen 0
  have HO := Lib.hid hown2
  have HB2 := Lib.hid hb2
  have HK2 := Lib.hid hbk2
  clear hown2 hb2 hbk2 c0
  have hfin : ∀ (A3 : Option Addr) (c3 : Nat), n - m ≤ c3 → c3 ≤ 9223372036854775807 → Rd w1 B 1 A3 (n - m) (l.map (Value.int .i64)) →
      (w2.setCell ⟨g, 0, none⟩ (.slice A3 (n - m) c3)).ownsRow w.heap.size 3 1 (.slice A2 m c2) m (xs.map (Value.int .i64)) ∧ RI (w2.setCell ⟨g, 0, none⟩ (.slice A3 (n - m) c3)) B g l ∧ w.grownBy (w2.setCell ⟨g, 0, none⟩ (.slice A3 (n - m) c3)) (some g) := by
    intro A3 c3 h1 h2 h3
    refine ⟨own_mono (own_farU HO.out HK2.out (by decide) 0 _) hw1, ⟨A3, n - m, c3, HK2.out.set_ 0 _, ?_, h1, h2, ?_⟩, Gb.set_ ?_ 0 _⟩
    · have := HH.out.2.1; have := HM.out; rw [List.length_append] at *; omega
    · exact (h3.below (HB2.out.mono (by omega))).keep fun k hk => Below.heap_setCell _ _ _ _ (by show k ≠ g; omega)
    · exact Gb.more HH.out.2.2.2 ⟨HB2.out.os, HB2.out.tape, HB2.out.output, HB2.out.size, fun k hk _ => HB2.out.block k hk⟩ (.inl rfl)
  have hnil : m = n → l = [] := fun e => List.eq_nil_of_length_eq_zero (by have := HH.out.2.1; have := HM.out; rw [List.length_append] at *; omega)
  have HF := Lib.hid hfin
  have HNI := Lib.hid hnil
  clear hfin hnil
  rcases hA : A with _ | ⟨b, o, sp⟩
  · subst hA
    go_wp2_with fail
    go_ret
    have h0 : m = n := by
      rcases Nat.eq_zero_or_pos n with h | h
      · omega
      · obtain ⟨_, _, e, _⟩ := HH.out.2.2.1.2 h; cases e
    have hl := HNI.out h0
    subst hl
    have e0 : n - m = 0 := by omega
    have := HF.out none (c - m) (by omega) (by omega) (by rw [e0]; exact Rd.nil_ _)
    refine ⟨A2, c2, by rw [← HM.out]; rfl, by rw [← HM.out]; exact this.1, this.2⟩
  · subst hA
    have hrd2 : c ≠ m → Rd w1 B 1 (some ((⟨b, o, sp⟩ : Addr).add m)) (n - m) (l.map (Value.int .i64)) := fun hcm => by
      rcases Nat.eq_zero_or_pos (n - m) with h | h
      · have hl := HNI.out (by omega)
        subst hl
        rw [h]; exact Rd.nil_ _
      · obtain ⟨b', o', e, h1, h2⟩ := HH.out.2.2.1.2 (by omega)
        injection e with e
        injection e with e1 e2 e3
        subst e1
        subst e2
        subst e3
        refine ⟨by have := HH.out.2.1; have := HM.out; rw [List.length_append] at *; simp; omega, fun _ => ⟨b, o + m, by simp [Addr.add], h1, fun j u hu => ?_⟩⟩
        rw [Nat.add_assoc]
        refine h2 (m + j) u ?_
        rw [List.map_append, List.getElem?_append_right (by simp [HM.out]), List.length_map, ← HM.out, Nat.add_sub_cancel_left]
        exact hu
    have HR2 := Lib.hid hrd2
    clear hrd2
    go_wp2_with fail
    · go_ret
      have h0 : m = n := by omega
      have hl := HNI.out h0
      subst hl
      have e0 : n - m = 0 := by omega
      have := HF.out (some ⟨b, o, sp⟩) 0 (by omega) (by omega) (by rw [e0]; exact Rd.nil_ _)
      refine ⟨A2, c2, by rw [← HM.out]; rfl, by rw [← HM.out]; exact this.1, this.2⟩
    · go_ret
      have := HF.out (some ((⟨b, o, sp⟩ : Addr).add m)) (c - m) (by omega) (by omega) (HR2.out (by omega))
      refine ⟨A2, c2, by rw [← HM.out]; rfl, by rw [← HM.out]; exact this.1, this.2⟩

theorem byteL_rng (s : ByteArray) : ∀ x ∈ byteL s, 0 ≤ x ∧ x < 256 := by
  intro x hx
  unfold byteL at hx
  obtain ⟨b, _, rfl⟩ := List.mem_map.1 hx
  exact ⟨by omega, by have := b.toNat_lt; omega⟩
set_option maxHeartbeats 1600000 in
theorem rtext_any (g B : Nat) (s : ByteArray) (l : List Int) (w : World) (hst : RI w B g (textF s ++ l)) (hB : B ≤ g) (hs : s.size ≤ 1000000) :
    Calls Try.prog 222 #[.pointer (some ⟨g, 0, none⟩)] w fun e w' => e = .returned (.string s) ∧ RI w' B g l ∧ w.grownBy w' (some g) := by
  obtain ⟨i5, hi5, hz50, hz51, hz52⟩ := info_parts T.info5
  have hgl := hst.lt
  have hbl := byteL_length s
  have H := Lib.hid (rlist_any g B (byteL s) l w (by unfold textF at hst; rw [← hbl] at hst; exact hst) hB (by omega))
  rw [hbl] at H
  obtain ⟨n, hn⟩ : ∃ n, n = s.size := ⟨_, rfl⟩
  rw [← hn] at H hs hbl
  have HN := Lib.hid hn
  have HBL := Lib.hid hbl
  clear hst hn hbl
  go_enter Try.func222, Try.ntmps222
  go_wp2_with fail
  refine H.out.mono ?_
  clear H
  rintro e w1 ⟨A, c, rfl, hown1, hri1, hg1⟩
  have HO1 := Lib.hid hown1
  have HR1 := Lib.hid hri1
  have HG1 := Lib.hid hg1
  have hw1 : w.heap.size ≤ w1.heap.size := hg1.size
  clear hown1 hri1 hg1
  go_wp2_with fail
  go_loopw [3, 9] (fun bv kv wr => ∃ (k c' : Nat) (A' : Option Addr), k ≤ n ∧ kv = .int .i64 k ∧ bv = .slice A' k c' ∧ Hid (wr.ownsRow w1.heap.size 5 1 (.slice A' k c') k (((byteL s).take k).map (Value.int .u8))) ∧ Hid (Below w1.heap.size w1 wr)) (fun _ kv _ => n - (intOf kv).toNat)
  case atStart => exact ⟨0, 0, none, Nat.zero_le _, rfl, rfl, Lib.hid (World.ownsRow_nil _ _ _ _), Lib.hid (Below.refl _ _)⟩
  case round =>
    obtain ⟨k, c', A', hk, rfl, rfl, HO, HB⟩ := hrel
    obtain ⟨wo, rfl⟩ : ∃ z, z = wr := ⟨_, rfl⟩
    by_cases hlt : k < n
    · obtain ⟨x, hx⟩ : ∃ x, (byteL s)[k]? = some x := ⟨_, List.getElem?_eq_getElem (by have := HBL.out; omega)⟩
      have hx1 := byteL_rng s x (List.mem_of_getElem? hx)
      obtain ⟨b, o, rfl, hbb, hcx⟩ := ((Rd.of_own HO1.out).below HB.out).at1 hlt (u := .int .i64 x) (by rw [List.getElem?_map, hx]; rfl)
      obtain ⟨hx0, hx2⟩ := hx1
      have hx3 : x ≤ 255 := by omega
      have hwx : IntKind.u8.wrap x = x := by rw [IntKind.wrap_u8]; omega
      have HX := Lib.hid hx
      have hbs := HB.out.size
      clear hx
      go_wp2_with
        (at_builtin
         go_must (refine wpList_append_one _ rfl (.tmp 22) (.tmp 25) _ rfl w1.heap.size 5 i5 (.int .u8 0) 1 1 Try.underlying81 hi5 hz50 hz51 hz52 rfl (by decide) (.slice A' k c') k _ rfl (HO.out.alloc _) wo.heap.size 1 5 #[.int .u8 x] rfl (Bk.new _ _ _) rfl ?c1 (k + 1) rfl ?c2 ?c3 ?c4 ?_)
         case c1 => simp [Value.oneCell']
         case c2 => unfold maxLen; omega
         case c3 => omega
         case c4 => simp; omega
         intro g2 c2 w2 hown2 hg2 hat2)
      have HO2 : Hid (w2.ownsRow w1.heap.size 5 1 (.slice (some ⟨g2, 0, none⟩) (k + 1) c2) (k + 1) (((byteL s).take (k + 1)).map (Value.int .u8))) := Lib.hid (by
        rw [List.take_add_one, HX.out, List.map_append]
        exact hown2)
      have HB2 : Hid (Below w1.heap.size w1 w2) := Lib.hid ((HB.out.alloc hbs _).grown hg2 (by simp; omega) fun q hq => (HO.out.lt q hq).1)
      clear hown2 hg2 hat2 hcx HO HB
      go_wp2_with fail
      go_roundw
      case rel => exact ⟨k + 1, c2, _, by omega, by go_num, rfl, HO2, HB2⟩
      case measure => simp [intOf]; omega
    · obtain rfl : k = n := by omega
      have hkl : k = s.data.toList.length := by rw [HN.out]; exact Array.length_toList.symm
      have hcv : (convert 81 9 (.slice A' k c')).run Try.prog wo = .ok (.string s) wo := by
        cases A' with
        | none =>
          have h0 : k = 0 := by
            rcases Nat.eq_zero_or_pos k with h | h
            · exact h
            · obtain ⟨_, _, e, _⟩ := (Rd.of_own HO.out).2 h; cases e
          rw [run_convert_bytes_nil (w := wo) 81 5 Try.underlying81 Try.underlying5 k c' 9 Try.underlying9]
          have : s = ByteArray.empty := ByteArray.ext (Array.toList_inj.mp (List.eq_nil_of_length_eq_zero (by omega)))
          rw [this]
        | some a =>
          have hb := run_convert_bytes_back (P := Try.prog) wo 81 9 5 a c' s.data.toList Try.underlying81 Try.underlying5 Try.underlying9 (fun j hj => by
            have hx : (byteL s)[j]? = some ((s.data.toList[j].toNat : Nat) : Int) := by
              unfold byteL
              rw [List.getElem?_map, List.getElem?_eq_getElem hj]; rfl
            obtain ⟨b, o, e, _, hcx⟩ := (Rd.of_own HO.out).at1 (k := j) (by omega) (u := .int .u8 ((s.data.toList[j].toNat : Nat) : Int)) (by
              rw [List.getElem?_map, List.getElem?_take_of_lt (by omega), hx]; rfl)
            injection e with e
            rw [e, Addr.add_lit]
            exact hcx)
          rw [← hkl] at hb
          exact hb
      have HK := Lib.hid hkl
      clear hkl
      go_wp2_with fail
      go_ret
      exact ⟨rfl, HR1.out.below HB.out (by omega), Gb.more HG1.out ⟨HB.out.os, HB.out.tape, HB.out.output, HB.out.size, fun i hi _ => HB.out.block i hi⟩ (.inl rfl)⟩
end Go.Proofs.Ytnidcmhfbkdioaa
