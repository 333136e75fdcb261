/-
  The contracts of delta.Make and tourref4.SameState at any states. Conditions: what is read can be read.
-/
import Derived.Test.YtnidcmhfbkdioaaAd
namespace Go.Proofs.Ytnidcmhfbkdioaa
open Go.RowKit
set_option maxRecDepth 100000

theorem below_drewN {B : Nat} {a w : World} (h : Below B a w) (n : Nat) : Below B a (w.drewN n) := ⟨h.os, h.tape, h.output, h.size, h.block⟩

set_option maxHeartbeats 4000000 in
theorem same_gen (T1 : Int) (A1a : Option Addr) (n1a c1a : Nat) (A1b : Option Addr) (n1b c1b : Nat) (A1c : Option Addr) (n1c c1c : Nat) (A1d : Option Addr) (n1d c1d : Nat) (A1e : Option Addr) (n1e c1e : Nat) (A1f : Option Addr) (n1f c1f : Nat) (T2 : Int) (A2a : Option Addr) (n2a c2a : Nat) (A2b : Option Addr) (n2b c2b : Nat) (A2c : Option Addr) (n2c c2c : Nat) (A2d : Option Addr) (n2d c2d : Nat) (A2e : Option Addr) (n2e c2e : Nat) (A2f : Option Addr) (n2f c2f : Nat) (F G : List Int) (w : World) (hF : ∀ wz, Below w.heap.size w wz → Calls Try.prog 43 #[.agg #[.int .i64 T1, .slice A1a n1a c1a, .slice A1b n1b c1b, .slice A1c n1c c1c, .slice A1d n1d c1d, .slice A1e n1e c1e, .slice A1f n1f c1f]] wz (RetS wz 3 1 F.length (F.map (Value.int .i64)))) (hG : ∀ wz, Below w.heap.size w wz → Calls Try.prog 43 #[.agg #[.int .i64 T2, .slice A2a n2a c2a, .slice A2b n2b c2b, .slice A2c n2c c2c, .slice A2d n2d c2d, .slice A2e n2e c2e, .slice A2f n2f c2f]] wz (RetS wz 3 1 G.length (G.map (Value.int .i64)))) (rF : i64r F) (rG : i64r G) :
    Calls Try.prog 47 #[.agg #[.int .i64 T1, .slice A1a n1a c1a, .slice A1b n1b c1b, .slice A1c n1c c1c, .slice A1d n1d c1d, .slice A1e n1e c1e, .slice A1f n1f c1f], .agg #[.int .i64 T2, .slice A2a n2a c2a, .slice A2b n2b c2b, .slice A2c n2c c2c, .slice A2d n2d c2d, .slice A2e n2e c2e, .slice A2f n2f c2f]] w fun e w' => e = .returned (.bool (decide (F = G))) ∧ Below w.heap.size w w' := by
  obtain ⟨W0, hW0⟩ : ∃ W0, W0 = (w.alloc (.cells #[.int .i64 T1, .slice A1a n1a c1a, .slice A1b n1b c1b, .slice A1c n1c c1c, .slice A1d n1d c1d, .slice A1e n1e c1e, .slice A1f n1f c1f] 80)).alloc (.cells #[.int .i64 T2, .slice A2a n2a c2a, .slice A2b n2b c2b, .slice A2c n2c c2c, .slice A2d n2d c2d, .slice A2e n2e c2e, .slice A2f n2f c2f] 80) := ⟨_, rfl⟩
  have hb0 : Below w.heap.size w W0 := by rw [hW0]; exact Below.al (Below.al (Below.refl _ _) _) _
  have hs0 : W0.heap.size = w.heap.size + 2 := by rw [hW0]; simp
  have HX1 : Hid (Bk W0 w.heap.size 80 #[.int .i64 T1, .slice A1a n1a c1a, .slice A1b n1b c1b, .slice A1c n1c c1c, .slice A1d n1d c1d, .slice A1e n1e c1e, .slice A1f n1f c1f]) := Lib.hid (by rw [hW0]; exact (Bk.new _ _ _).alloc _)
  have HX2 : Hid (Bk W0 (w.heap.size + 1) 80 #[.int .i64 T2, .slice A2a n2a c2a, .slice A2b n2b c2b, .slice A2c n2c c2c, .slice A2d n2d c2d, .slice A2e n2e c2e, .slice A2f n2f c2f]) := Lib.hid (by rw [hW0]; exact Bk.two _ _ _ _)
  have HF1 := Lib.hid (fun (wz : World) (hb : Below W0.heap.size W0 wz) => hF wz (hb0.trans (hb.mono hb0.size)))
  have HF2 := Lib.hid (fun (wz : World) (hb : Below W0.heap.size W0 wz) => hG wz (hb0.trans (hb.mono hb0.size)))
  have HB0 := Lib.hid hb0
  have HSZ := Lib.hid hs0
  have HRG := Lib.hid (And.intro rF rG)
  clear hF hG hb0 hs0 rF rG
  go_enter Try.func47, Try.ntmps47
  go_upto_region 1 with fail
  rw [← hW0]
  clear hW0
  have a0 : W0.cell? ⟨w.heap.size, 0, none⟩ = some (.int .i64 T1) := HX1.out.cell 0
  have a1 : W0.cell? ⟨w.heap.size, 1, none⟩ = some (.slice A1a n1a c1a) := HX1.out.cell 1
  have a2 : W0.cell? ⟨w.heap.size, 2, none⟩ = some (.slice A1b n1b c1b) := HX1.out.cell 2
  have a3 : W0.cell? ⟨w.heap.size, 3, none⟩ = some (.slice A1c n1c c1c) := HX1.out.cell 3
  have a4 : W0.cell? ⟨w.heap.size, 4, none⟩ = some (.slice A1d n1d c1d) := HX1.out.cell 4
  have a5 : W0.cell? ⟨w.heap.size, 5, none⟩ = some (.slice A1e n1e c1e) := HX1.out.cell 5
  have a6 : W0.cell? ⟨w.heap.size, 6, none⟩ = some (.slice A1f n1f c1f) := HX1.out.cell 6
  have b0 : W0.cell? ⟨(w.heap.size + 1), 0, none⟩ = some (.int .i64 T2) := HX2.out.cell 0
  have b1 : W0.cell? ⟨(w.heap.size + 1), 1, none⟩ = some (.slice A2a n2a c2a) := HX2.out.cell 1
  have b2 : W0.cell? ⟨(w.heap.size + 1), 2, none⟩ = some (.slice A2b n2b c2b) := HX2.out.cell 2
  have b3 : W0.cell? ⟨(w.heap.size + 1), 3, none⟩ = some (.slice A2c n2c c2c) := HX2.out.cell 3
  have b4 : W0.cell? ⟨(w.heap.size + 1), 4, none⟩ = some (.slice A2d n2d c2d) := HX2.out.cell 4
  have b5 : W0.cell? ⟨(w.heap.size + 1), 5, none⟩ = some (.slice A2e n2e c2e) := HX2.out.cell 5
  have b6 : W0.cell? ⟨(w.heap.size + 1), 6, none⟩ = some (.slice A2f n2f c2f) := HX2.out.cell 6
  go_region_law
    (first
      | (go_simp
         go_at_call 43
         (with_reducible refine (HF1.out _ ?hb).mono ?_)
         case hb => (repeat' first | exact Below.refl _ _ | refine Below.drew ?_)
         rintro e w1 ⟨A1, c1, rfl, hown1, hb1⟩
         have hB1 : Below W0.heap.size W0 w1 := ((Below.refl W0.heap.size W0).drew).trans hb1
         have hx2 := HX2.out.below hB1 HX2.out.lt
         have d0 : w1.cell? ⟨(w.heap.size + 1), 0, none⟩ = some (.int .i64 T2) := hx2.cell 0
         have d1 : w1.cell? ⟨(w.heap.size + 1), 1, none⟩ = some (.slice A2a n2a c2a) := hx2.cell 1
         have d2 : w1.cell? ⟨(w.heap.size + 1), 2, none⟩ = some (.slice A2b n2b c2b) := hx2.cell 2
         have d3 : w1.cell? ⟨(w.heap.size + 1), 3, none⟩ = some (.slice A2c n2c c2c) := hx2.cell 3
         have d4 : w1.cell? ⟨(w.heap.size + 1), 4, none⟩ = some (.slice A2d n2d c2d) := hx2.cell 4
         have d5 : w1.cell? ⟨(w.heap.size + 1), 5, none⟩ = some (.slice A2e n2e c2e) := hx2.cell 5
         have d6 : w1.cell? ⟨(w.heap.size + 1), 6, none⟩ = some (.slice A2f n2f c2f) := hx2.cell 6
         )
      | (go_simp
         go_at_call 43
         (with_reducible refine (HF2.out _ ?hb).mono ?_)
         case hb => exact hB1
         rintro e w2 ⟨A2, c2, rfl, hown2, hb2⟩)
      | (go_simp
         go_at_call 27
         (with_reducible refine (equalInts_any A1 A2 _ c1 _ c2 w2.heap.size F G w2 rfl rfl ?nc ?r1 ?r2).mono ?_)
         case r1 => exact (Rd.of_own (own_keepU hown1 hb2))
         case r2 => exact (Rd.of_own hown2)
         case nc => exact (by have := own_cap2 hown1; omega)
         rintro e w3 ⟨rfl, nd, rfl⟩))
  all_goals
    have hz1 : w.heap.size ≤ W0.heap.size := HB0.out.size
    have hz2 : W0.heap.size ≤ w1.heap.size := hB1.size
    have hz3 : w1.heap.size ≤ w2.heap.size := hb2.size
    go_wp2_with fail
    go_ret
    exact ⟨rfl, below_drewN ((HB0.out.trans (hB1.mono hz1)).trans (hb2.mono (by omega))) nd⟩

set_option maxHeartbeats 4000000 in
theorem make_ok (T1 : Int) (A1a : Option Addr) (n1a c1a : Nat) (A1b : Option Addr) (n1b c1b : Nat) (A1c : Option Addr) (n1c c1c : Nat) (A1d : Option Addr) (n1d c1d : Nat) (A1e : Option Addr) (n1e c1e : Nat) (A1f : Option Addr) (n1f c1f : Nat) (T2 : Int) (A2a : Option Addr) (n2a c2a : Nat) (A2b : Option Addr) (n2b c2b : Nat) (A2c : Option Addr) (n2c c2c : Nat) (A2d : Option Addr) (n2d c2d : Nat) (A2e : Option Addr) (n2e c2e : Nat) (A2f : Option Addr) (n2f c2f : Nat) (F G : List Int) (w : World) (hF : ∀ wz, Below w.heap.size w wz → Calls Try.prog 119 #[.agg #[.int .i64 T1, .slice A1a n1a c1a, .slice A1b n1b c1b, .slice A1c n1c c1c, .slice A1d n1d c1d, .slice A1e n1e c1e, .slice A1f n1f c1f]] wz (RetS wz 3 1 F.length (F.map (Value.int .i64)))) (hG : ∀ wz, Below w.heap.size w wz → Calls Try.prog 119 #[.agg #[.int .i64 T2, .slice A2a n2a c2a, .slice A2b n2b c2b, .slice A2c n2c c2c, .slice A2d n2d c2d, .slice A2e n2e c2e, .slice A2f n2f c2f]] wz (RetS wz 3 1 G.length (G.map (Value.int .i64)))) (rF : i64r F) (rG : i64r G) (hok : encOk F G) :
    Calls Try.prog 41 #[.agg #[.int .i64 T1, .slice A1a n1a c1a, .slice A1b n1b c1b, .slice A1c n1c c1c, .slice A1d n1d c1d, .slice A1e n1e c1e, .slice A1f n1f c1f], .agg #[.int .i64 T2, .slice A2a n2a c2a, .slice A2b n2b c2b, .slice A2c n2c c2c, .slice A2d n2d c2d, .slice A2e n2e c2e, .slice A2f n2f c2f]] w (IntsPost w F G) := by
  obtain ⟨W0, hW0⟩ : ∃ W0, W0 = (w.alloc (.cells #[.int .i64 T1, .slice A1a n1a c1a, .slice A1b n1b c1b, .slice A1c n1c c1c, .slice A1d n1d c1d, .slice A1e n1e c1e, .slice A1f n1f c1f] 80)).alloc (.cells #[.int .i64 T2, .slice A2a n2a c2a, .slice A2b n2b c2b, .slice A2c n2c c2c, .slice A2d n2d c2d, .slice A2e n2e c2e, .slice A2f n2f c2f] 80) := ⟨_, rfl⟩
  have hb0 : Below w.heap.size w W0 := by rw [hW0]; exact Below.al (Below.al (Below.refl _ _) _) _
  have hs0 : W0.heap.size = w.heap.size + 2 := by rw [hW0]; simp
  have HX1 : Hid (Bk W0 w.heap.size 80 #[.int .i64 T1, .slice A1a n1a c1a, .slice A1b n1b c1b, .slice A1c n1c c1c, .slice A1d n1d c1d, .slice A1e n1e c1e, .slice A1f n1f c1f]) := Lib.hid (by rw [hW0]; exact (Bk.new _ _ _).alloc _)
  have HX2 : Hid (Bk W0 (w.heap.size + 1) 80 #[.int .i64 T2, .slice A2a n2a c2a, .slice A2b n2b c2b, .slice A2c n2c c2c, .slice A2d n2d c2d, .slice A2e n2e c2e, .slice A2f n2f c2f]) := Lib.hid (by rw [hW0]; exact Bk.two _ _ _ _)
  have HF1 := Lib.hid (fun (wz : World) (hb : Below W0.heap.size W0 wz) => hF wz (hb0.trans (hb.mono hb0.size)))
  have HF2 := Lib.hid (fun (wz : World) (hb : Below W0.heap.size W0 wz) => hG wz (hb0.trans (hb.mono hb0.size)))
  have HB0 := Lib.hid hb0
  have HSZ := Lib.hid hs0
  have HRG := Lib.hid (And.intro rF rG)
  have HOK := Lib.hid hok
  clear hF hG hb0 hs0 rF rG hok
  go_enter Try.func41, Try.ntmps41
  go_upto_region 1 with fail
  rw [← hW0]
  clear hW0
  have a0 : W0.cell? ⟨w.heap.size, 0, none⟩ = some (.int .i64 T1) := HX1.out.cell 0
  have a1 : W0.cell? ⟨w.heap.size, 1, none⟩ = some (.slice A1a n1a c1a) := HX1.out.cell 1
  have a2 : W0.cell? ⟨w.heap.size, 2, none⟩ = some (.slice A1b n1b c1b) := HX1.out.cell 2
  have a3 : W0.cell? ⟨w.heap.size, 3, none⟩ = some (.slice A1c n1c c1c) := HX1.out.cell 3
  have a4 : W0.cell? ⟨w.heap.size, 4, none⟩ = some (.slice A1d n1d c1d) := HX1.out.cell 4
  have a5 : W0.cell? ⟨w.heap.size, 5, none⟩ = some (.slice A1e n1e c1e) := HX1.out.cell 5
  have a6 : W0.cell? ⟨w.heap.size, 6, none⟩ = some (.slice A1f n1f c1f) := HX1.out.cell 6
  have b0 : W0.cell? ⟨(w.heap.size + 1), 0, none⟩ = some (.int .i64 T2) := HX2.out.cell 0
  have b1 : W0.cell? ⟨(w.heap.size + 1), 1, none⟩ = some (.slice A2a n2a c2a) := HX2.out.cell 1
  have b2 : W0.cell? ⟨(w.heap.size + 1), 2, none⟩ = some (.slice A2b n2b c2b) := HX2.out.cell 2
  have b3 : W0.cell? ⟨(w.heap.size + 1), 3, none⟩ = some (.slice A2c n2c c2c) := HX2.out.cell 3
  have b4 : W0.cell? ⟨(w.heap.size + 1), 4, none⟩ = some (.slice A2d n2d c2d) := HX2.out.cell 4
  have b5 : W0.cell? ⟨(w.heap.size + 1), 5, none⟩ = some (.slice A2e n2e c2e) := HX2.out.cell 5
  have b6 : W0.cell? ⟨(w.heap.size + 1), 6, none⟩ = some (.slice A2f n2f c2f) := HX2.out.cell 6
  go_region_law
    (first
      | (go_simp
         go_at_call 119
         (with_reducible refine (HF1.out _ ?hb).mono ?_)
         case hb => (repeat' first | exact Below.refl _ _ | refine Below.drew ?_)
         rintro e w1 ⟨A1, c1, rfl, hown1, hb1⟩
         have hB1 : Below W0.heap.size W0 w1 := ((Below.refl W0.heap.size W0).drew).trans hb1
         have hx2 := HX2.out.below hB1 HX2.out.lt
         have d0 : w1.cell? ⟨(w.heap.size + 1), 0, none⟩ = some (.int .i64 T2) := hx2.cell 0
         have d1 : w1.cell? ⟨(w.heap.size + 1), 1, none⟩ = some (.slice A2a n2a c2a) := hx2.cell 1
         have d2 : w1.cell? ⟨(w.heap.size + 1), 2, none⟩ = some (.slice A2b n2b c2b) := hx2.cell 2
         have d3 : w1.cell? ⟨(w.heap.size + 1), 3, none⟩ = some (.slice A2c n2c c2c) := hx2.cell 3
         have d4 : w1.cell? ⟨(w.heap.size + 1), 4, none⟩ = some (.slice A2d n2d c2d) := hx2.cell 4
         have d5 : w1.cell? ⟨(w.heap.size + 1), 5, none⟩ = some (.slice A2e n2e c2e) := hx2.cell 5
         have d6 : w1.cell? ⟨(w.heap.size + 1), 6, none⟩ = some (.slice A2f n2f c2f) := hx2.cell 6
         )
      | (go_simp
         go_at_call 119
         (with_reducible refine (HF2.out _ ?hb).mono ?_)
         case hb => exact hB1
         rintro e w2 ⟨A2, c2, rfl, hown2, hb2⟩)
      | (go_simp
         go_at_call 118
         (with_reducible refine (ints_any A1 A2 _ c1 _ c2 w2.heap.size F G w2 ?r1 ?r2 rfl rfl ?nc HRG.out.1 HRG.out.2 (Nat.le_refl _)).mono ?_)
         case r1 => exact (Rd.of_own (own_keepU hown1 hb2))
         case r2 => exact (Rd.of_own hown2)
         case nc => exact ⟨by have := own_cap2 hown1; omega, by have := own_cap2 hown2; omega⟩
         rintro e w3 (⟨_, A3, c3, rfl, hown3, hb3⟩ | ⟨hno, _⟩)
         rotate_left
         · exact absurd HOK.out hno))
  all_goals
    have hz1 : w.heap.size ≤ W0.heap.size := HB0.out.size
    have hz2 : W0.heap.size ≤ w1.heap.size := hB1.size
    have hz3 : w1.heap.size ≤ w2.heap.size := hb2.size
    go_wp2_with fail
    go_ret2
    exact .inl ⟨HOK.out, A3, c3, rfl, own_mono hown3 (by omega), ((HB0.out.trans (hB1.mono hz1)).trans (hb2.mono (by omega))).trans (hb3.mono (by omega))⟩

set_option maxHeartbeats 4000000 in
theorem make_no (T1 : Int) (A1a : Option Addr) (n1a c1a : Nat) (A1b : Option Addr) (n1b c1b : Nat) (A1c : Option Addr) (n1c c1c : Nat) (A1d : Option Addr) (n1d c1d : Nat) (A1e : Option Addr) (n1e c1e : Nat) (A1f : Option Addr) (n1f c1f : Nat) (T2 : Int) (A2a : Option Addr) (n2a c2a : Nat) (A2b : Option Addr) (n2b c2b : Nat) (A2c : Option Addr) (n2c c2c : Nat) (A2d : Option Addr) (n2d c2d : Nat) (A2e : Option Addr) (n2e c2e : Nat) (A2f : Option Addr) (n2f c2f : Nat) (F G : List Int) (w : World) (hF : ∀ wz, Below w.heap.size w wz → Calls Try.prog 119 #[.agg #[.int .i64 T1, .slice A1a n1a c1a, .slice A1b n1b c1b, .slice A1c n1c c1c, .slice A1d n1d c1d, .slice A1e n1e c1e, .slice A1f n1f c1f]] wz (RetS wz 3 1 F.length (F.map (Value.int .i64)))) (hG : ∀ wz, Below w.heap.size w wz → Calls Try.prog 119 #[.agg #[.int .i64 T2, .slice A2a n2a c2a, .slice A2b n2b c2b, .slice A2c n2c c2c, .slice A2d n2d c2d, .slice A2e n2e c2e, .slice A2f n2f c2f]] wz (RetS wz 3 1 G.length (G.map (Value.int .i64)))) (rF : i64r F) (rG : i64r G) (hok : ¬ encOk F G) :
    Calls Try.prog 41 #[.agg #[.int .i64 T1, .slice A1a n1a c1a, .slice A1b n1b c1b, .slice A1c n1c c1c, .slice A1d n1d c1d, .slice A1e n1e c1e, .slice A1f n1f c1f], .agg #[.int .i64 T2, .slice A2a n2a c2a, .slice A2b n2b c2b, .slice A2c n2c c2c, .slice A2d n2d c2d, .slice A2e n2e c2e, .slice A2f n2f c2f]] w (IntsPost w F G) := by
  obtain ⟨W0, hW0⟩ : ∃ W0, W0 = (w.alloc (.cells #[.int .i64 T1, .slice A1a n1a c1a, .slice A1b n1b c1b, .slice A1c n1c c1c, .slice A1d n1d c1d, .slice A1e n1e c1e, .slice A1f n1f c1f] 80)).alloc (.cells #[.int .i64 T2, .slice A2a n2a c2a, .slice A2b n2b c2b, .slice A2c n2c c2c, .slice A2d n2d c2d, .slice A2e n2e c2e, .slice A2f n2f c2f] 80) := ⟨_, rfl⟩
  have hb0 : Below w.heap.size w W0 := by rw [hW0]; exact Below.al (Below.al (Below.refl _ _) _) _
  have hs0 : W0.heap.size = w.heap.size + 2 := by rw [hW0]; simp
  have HX1 : Hid (Bk W0 w.heap.size 80 #[.int .i64 T1, .slice A1a n1a c1a, .slice A1b n1b c1b, .slice A1c n1c c1c, .slice A1d n1d c1d, .slice A1e n1e c1e, .slice A1f n1f c1f]) := Lib.hid (by rw [hW0]; exact (Bk.new _ _ _).alloc _)
  have HX2 : Hid (Bk W0 (w.heap.size + 1) 80 #[.int .i64 T2, .slice A2a n2a c2a, .slice A2b n2b c2b, .slice A2c n2c c2c, .slice A2d n2d c2d, .slice A2e n2e c2e, .slice A2f n2f c2f]) := Lib.hid (by rw [hW0]; exact Bk.two _ _ _ _)
  have HF1 := Lib.hid (fun (wz : World) (hb : Below W0.heap.size W0 wz) => hF wz (hb0.trans (hb.mono hb0.size)))
  have HF2 := Lib.hid (fun (wz : World) (hb : Below W0.heap.size W0 wz) => hG wz (hb0.trans (hb.mono hb0.size)))
  have HB0 := Lib.hid hb0
  have HSZ := Lib.hid hs0
  have HRG := Lib.hid (And.intro rF rG)
  have HOK := Lib.hid hok
  clear hF hG hb0 hs0 rF rG hok
  go_enter Try.func41, Try.ntmps41
  go_upto_region 1 with fail
  rw [← hW0]
  clear hW0
  have a0 : W0.cell? ⟨w.heap.size, 0, none⟩ = some (.int .i64 T1) := HX1.out.cell 0
  have a1 : W0.cell? ⟨w.heap.size, 1, none⟩ = some (.slice A1a n1a c1a) := HX1.out.cell 1
  have a2 : W0.cell? ⟨w.heap.size, 2, none⟩ = some (.slice A1b n1b c1b) := HX1.out.cell 2
  have a3 : W0.cell? ⟨w.heap.size, 3, none⟩ = some (.slice A1c n1c c1c) := HX1.out.cell 3
  have a4 : W0.cell? ⟨w.heap.size, 4, none⟩ = some (.slice A1d n1d c1d) := HX1.out.cell 4
  have a5 : W0.cell? ⟨w.heap.size, 5, none⟩ = some (.slice A1e n1e c1e) := HX1.out.cell 5
  have a6 : W0.cell? ⟨w.heap.size, 6, none⟩ = some (.slice A1f n1f c1f) := HX1.out.cell 6
  have b0 : W0.cell? ⟨(w.heap.size + 1), 0, none⟩ = some (.int .i64 T2) := HX2.out.cell 0
  have b1 : W0.cell? ⟨(w.heap.size + 1), 1, none⟩ = some (.slice A2a n2a c2a) := HX2.out.cell 1
  have b2 : W0.cell? ⟨(w.heap.size + 1), 2, none⟩ = some (.slice A2b n2b c2b) := HX2.out.cell 2
  have b3 : W0.cell? ⟨(w.heap.size + 1), 3, none⟩ = some (.slice A2c n2c c2c) := HX2.out.cell 3
  have b4 : W0.cell? ⟨(w.heap.size + 1), 4, none⟩ = some (.slice A2d n2d c2d) := HX2.out.cell 4
  have b5 : W0.cell? ⟨(w.heap.size + 1), 5, none⟩ = some (.slice A2e n2e c2e) := HX2.out.cell 5
  have b6 : W0.cell? ⟨(w.heap.size + 1), 6, none⟩ = some (.slice A2f n2f c2f) := HX2.out.cell 6
  go_region_law
    (first
      | (go_simp
         go_at_call 119
         (with_reducible refine (HF1.out _ ?hb).mono ?_)
         case hb => (repeat' first | exact Below.refl _ _ | refine Below.drew ?_)
         rintro e w1 ⟨A1, c1, rfl, hown1, hb1⟩
         have hB1 : Below W0.heap.size W0 w1 := ((Below.refl W0.heap.size W0).drew).trans hb1
         have hx2 := HX2.out.below hB1 HX2.out.lt
         have d0 : w1.cell? ⟨(w.heap.size + 1), 0, none⟩ = some (.int .i64 T2) := hx2.cell 0
         have d1 : w1.cell? ⟨(w.heap.size + 1), 1, none⟩ = some (.slice A2a n2a c2a) := hx2.cell 1
         have d2 : w1.cell? ⟨(w.heap.size + 1), 2, none⟩ = some (.slice A2b n2b c2b) := hx2.cell 2
         have d3 : w1.cell? ⟨(w.heap.size + 1), 3, none⟩ = some (.slice A2c n2c c2c) := hx2.cell 3
         have d4 : w1.cell? ⟨(w.heap.size + 1), 4, none⟩ = some (.slice A2d n2d c2d) := hx2.cell 4
         have d5 : w1.cell? ⟨(w.heap.size + 1), 5, none⟩ = some (.slice A2e n2e c2e) := hx2.cell 5
         have d6 : w1.cell? ⟨(w.heap.size + 1), 6, none⟩ = some (.slice A2f n2f c2f) := hx2.cell 6
         )
      | (go_simp
         go_at_call 119
         (with_reducible refine (HF2.out _ ?hb).mono ?_)
         case hb => exact hB1
         rintro e w2 ⟨A2, c2, rfl, hown2, hb2⟩)
      | (go_simp
         go_at_call 118
         (with_reducible refine (ints_any A1 A2 _ c1 _ c2 w2.heap.size F G w2 ?r1 ?r2 rfl rfl ?nc HRG.out.1 HRG.out.2 (Nat.le_refl _)).mono ?_)
         case r1 => exact (Rd.of_own (own_keepU hown1 hb2))
         case r2 => exact (Rd.of_own hown2)
         case nc => exact ⟨by have := own_cap2 hown1; omega, by have := own_cap2 hown2; omega⟩
         rintro e w3 (⟨hno, _⟩ | ⟨_, A3, c3, rfl, hown3, hb3⟩)
         skip
         · exact absurd hno HOK.out))
  all_goals
    have hz1 : w.heap.size ≤ W0.heap.size := HB0.out.size
    have hz2 : W0.heap.size ≤ w1.heap.size := hB1.size
    have hz3 : w1.heap.size ≤ w2.heap.size := hb2.size
    go_wp2_with fail
    go_ret2
    exact .inr ⟨HOK.out, A3, c3, rfl, own_mono hown3 (by omega), ((HB0.out.trans (hB1.mono hz1)).trans (hb2.mono (by omega))).trans (hb3.mono (by omega))⟩
end Go.Proofs.Ytnidcmhfbkdioaa
