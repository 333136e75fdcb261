/-
  The contract of delta.Apply at any state. Conditions: what is read can be read.
-/
import Derived.Test.YtnidcmhfbkdioaaAo
import Derived.Test.YtnidcmhfbkdioaaAi
namespace Go.Proofs.Ytnidcmhfbkdioaa
open Go.RowKit
set_option maxRecDepth 100000

/-- What Apply returns: Back's error, or what Unflat says of the list. -/
def ApPost (w : World) (r : Int × List Int) (e : Ending) (w' : World) : Prop :=
  (r.1 ≠ 0 ∧ e = .returned (.tuple #[.agg #[.int .i64 0, .slice none 0 0, .slice none 0 0, .slice none 0 0, .slice none 0 0, .slice none 0 0, .slice none 0 0], .int .i64 r.1]) ∧ Below w.heap.size w w') ∨ (r.1 = 0 ∧ UfPost w (rSt (r.2, false)) e w')
theorem SmY.keep80 {w w' : World} {x : Sm} (h : SmY w 0 x) (hq : Kx 0 [80] w w') : SmY w' 0 x :=
  ⟨h.d.keep hq (by decide) (by decide) (by decide) (by decide) (by decide), h.c.keep hq (by decide), h.m.keep hq (by decide) (by decide), h.e.keep hq (by decide)⟩
theorem below_hi {w w' : World} {g : Nat} (h : Below w.heap.size w w') (hg : w.heap.size ≤ g) (i : Nat) (u : Value) : Below w.heap.size w (w'.setCell ⟨g, i, none⟩ u) :=
  ⟨h.os, h.tape, h.output, by simpa [World.setCell] using h.size, fun k hk => (Below.heap_setCell _ _ _ _ (by show k ≠ g; omega)).trans (h.block k hk)⟩

set_option maxHeartbeats 8000000 in
theorem apply_gen (T1 : Int) (A1a : Option Addr) (n1a c1a : Nat) (A1b : Option Addr) (n1b c1b : Nat) (A1c : Option Addr) (n1c c1c : Nat) (A1d : Option Addr) (n1d c1d : Nat) (A1e : Option Addr) (n1e c1e : Nat) (A1f : Option Addr) (n1f c1f : Nat) (F : List Int) (d : List Nat) (D : Option Addr) (dn dc B : Nat) (w : World) (hF : ∀ wz, Below w.heap.size w wz → Calls Try.prog 119 #[.agg #[.int .i64 T1, .slice A1a n1a c1a, .slice A1b n1b c1b, .slice A1c n1c c1c, .slice A1d n1d c1d, .slice A1e n1e c1e, .slice A1f n1f c1f]] wz (RetS wz 3 1 F.length (F.map (Value.int .i64)))) (hd : Rd w B 1 D dn (bytesV d)) (hdn : dn = d.length) (hB : B ≤ w.heap.size) (hd9 : dn ≤ 140737488355328) (rF : i64r F) (h256 : ∀ b ∈ d, b < 256) (hlen : (backD F d).2.length ≤ 1000000000) (hw : AllW (backD F d).2) :
    Calls Try.prog 45 #[.agg #[.int .i64 T1, .slice A1a n1a c1a, .slice A1b n1b c1b, .slice A1c n1c c1c, .slice A1d n1d c1d, .slice A1e n1e c1e, .slice A1f n1f c1f], .slice D dn dc] w (ApPost w (backD F d)) := by
  obtain ⟨W0, hW0⟩ : ∃ W0, W0 = (w.alloc (.cells #[.int .i64 T1, .slice A1a n1a c1a, .slice A1b n1b c1b, .slice A1c n1c c1c, .slice A1d n1d c1d, .slice A1e n1e c1e, .slice A1f n1f c1f] 80)).alloc (.cells #[.int .i64 0, .slice none 0 0, .slice none 0 0, .slice none 0 0, .slice none 0 0, .slice none 0 0, .slice none 0 0] 80) := ⟨_, rfl⟩
  have hb0 : Below w.heap.size w W0 := by rw [hW0]; exact Below.al (Below.al (Below.refl _ _) _) _
  have hs0 : W0.heap.size = w.heap.size + 2 := by rw [hW0]; simp
  have HX1 : Hid (Bk W0 w.heap.size 80 #[.int .i64 T1, .slice A1a n1a c1a, .slice A1b n1b c1b, .slice A1c n1c c1c, .slice A1d n1d c1d, .slice A1e n1e c1e, .slice A1f n1f c1f]) := Lib.hid (by rw [hW0]; exact (Bk.new _ _ _).alloc _)
  have HX2 : Hid (Bk W0 (w.heap.size + 1) 80 #[.int .i64 0, .slice none 0 0, .slice none 0 0, .slice none 0 0, .slice none 0 0, .slice none 0 0, .slice none 0 0]) := Lib.hid (by rw [hW0]; exact Bk.two _ _ _ _)
  have HF1 := Lib.hid (hF W0 hb0)
  have HD := Lib.hid (hd.below (hb0.mono hB))
  obtain ⟨r, hr⟩ : ∃ z, z = backD F d := ⟨_, rfl⟩
  have HRB := Lib.hid hr
  rw [← hr] at hlen hw ⊢
  have HW := Lib.hid hw
  have HB0 := Lib.hid hb0
  have HSZ := Lib.hid hs0
  have HRF := Lib.hid (And.intro rF h256)
  have HDN := Lib.hid hdn
  clear hF hb0 hs0 rF h256 hd hdn hr hw
  go_enter Try.func45, Try.ntmps45
  go_upto_region 1 with fail
  rw [← hW0]
  clear hW0
  have a0 : W0.cell? ⟨w.heap.size, 0, none⟩ = some (.int .i64 T1) := HX1.out.cell 0
  have a1 : W0.cell? ⟨w.heap.size, 1, none⟩ = some (.slice A1a n1a c1a) := HX1.out.cell 1
  have a2 : W0.cell? ⟨w.heap.size, 2, none⟩ = some (.slice A1b n1b c1b) := HX1.out.cell 2
  have a3 : W0.cell? ⟨w.heap.size, 3, none⟩ = some (.slice A1c n1c c1c) := HX1.out.cell 3
  have a4 : W0.cell? ⟨w.heap.size, 4, none⟩ = some (.slice A1d n1d c1d) := HX1.out.cell 4
  have a5 : W0.cell? ⟨w.heap.size, 5, none⟩ = some (.slice A1e n1e c1e) := HX1.out.cell 5
  have a6 : W0.cell? ⟨w.heap.size, 6, none⟩ = some (.slice A1f n1f c1f) := HX1.out.cell 6
  go_wp2_with fail
  with_reducible refine (HF1.out).mono ?_
  rintro e w1 ⟨A1, c1, rfl, hown1, hb1⟩
  have hz1 : w.heap.size + 2 = W0.heap.size := HSZ.out.symm
  have hz2 : W0.heap.size ≤ w1.heap.size := hb1.size
  have HK := Lib.hid (back_any A1 D F.length c1 dn dc w1.heap.size F d w1 (Rd.of_own hown1) ((HD.out.below (hb1.mono (by omega))).more (by omega)) rfl HDN.out (by have := own_cap2 hown1; omega) hd9 HRF.out.1 HRF.out.2 (Nat.le_refl _))
  have HBB1 := Lib.hid hb1
  clear hown1 hb1 a0 a1 a2 a3 a4 a5 a6
  go_wp2_with fail
  with_reducible refine (HK.out).mono ?_
  clear HK HF1
  rintro e w2 h
  unfold BackPost at h
  rw [← HRB.out] at h
  obtain ⟨A2, c2, rfl, hown2, hb2⟩ := h
  have hz3 : w1.heap.size ≤ w2.heap.size := hb2.size
  obtain ⟨re, rl⟩ := r
  dsimp only at hown2 hlen ⊢
  have hx2 := (HX2.out.below HBB1.out HX2.out.lt).below hb2 (by omega)
  have HX2' := Lib.hid hx2
  have HBW : Hid (Below w.heap.size w w2) := Lib.hid ((HB0.out.trans (HBB1.out.mono (by omega))).trans (hb2.mono (by omega)))
  by_cases h0 : re = 0
  · subst h0
    have HU := Lib.hid (junflat_any A2 rl.length c2 w2.heap.size rl w2 (Rd.of_own hown2) rfl (own_cap2 hown2).1 (own_cap2 hown2).2 (Nat.le_refl _) hlen HW.out)
    have HBB2 := Lib.hid hb2
    clear hown2 hb2 hx2 HX2
    go_wp2_with fail
    with_reducible refine (HU.out).mono ?_
    clear HU
    rintro e w3 ⟨hor, hb3⟩
    have HBB3 := Lib.hid hb3
    have hz4 : w2.heap.size ≤ w3.heap.size := hb3.size
    have hx := HX2'.out.below hb3 (by omega)
    have HX3 := Lib.hid hx
    have HBW3 : Hid (Below w.heap.size w w3) := Lib.hid (HBW.out.trans (hb3.mono (by omega)))
    have m0 : w3.cell? ⟨w.heap.size + 1, 0, none⟩ = some (.int .i64 0) := hx.cell 0
    have f0 := hx.frozen 0
    have m1 : w3.cell? ⟨w.heap.size + 1, 1, none⟩ = some (.slice none 0 0) := hx.cell 1
    have f1 := hx.frozen 1
    have m2 : w3.cell? ⟨w.heap.size + 1, 2, none⟩ = some (.slice none 0 0) := hx.cell 2
    have f2 := hx.frozen 2
    have m3 : w3.cell? ⟨w.heap.size + 1, 3, none⟩ = some (.slice none 0 0) := hx.cell 3
    have f3 := hx.frozen 3
    have m4 : w3.cell? ⟨w.heap.size + 1, 4, none⟩ = some (.slice none 0 0) := hx.cell 4
    have f4 := hx.frozen 4
    have m5 : w3.cell? ⟨w.heap.size + 1, 5, none⟩ = some (.slice none 0 0) := hx.cell 5
    have f5 := hx.frozen 5
    have m6 : w3.cell? ⟨w.heap.size + 1, 6, none⟩ = some (.slice none 0 0) := hx.cell 6
    have f6 := hx.frozen 6
    clear hx hb3
    rcases hor with ⟨h1, h2, y, rfl, hy⟩ | ⟨h1, rfl⟩
    · have HG := Lib.hid (And.intro h1 h2)
      clear h1 h2
      obtain ⟨T, ⟨kA, kn, kc, ks, gA, gn, gc, gens, iA, im, ic, its⟩, cA, cn, cc, cts, mA, mn, mc, mds, eA, en, ec, evs⟩ := y
      unfold Sm.cs
      dsimp only
      go_wp2_with fail
      (try simp only [Exit.inBlock, Exit.then])
      have z0 := HX3.out.set_ 0 (Value.int .i64 T)
      have z1 := z0.set_ 1 (Value.slice kA kn kc)
      have z2 := z1.set_ 2 (Value.slice gA gn gc)
      have z3 := z2.set_ 3 (Value.slice iA im ic)
      have z4 := z3.set_ 4 (Value.slice cA cn cc)
      have z5 := z4.set_ 5 (Value.slice mA mn mc)
      have hK0 := ((((((((Kx.refl (B := 0) (F := [80])).set HX3.out (Nat.zero_le _) (by simp) 0 (Value.int .i64 T)).set z0 (Nat.zero_le _) (by simp) 1 (Value.slice kA kn kc)).set z1 (Nat.zero_le _) (by simp) 2 (Value.slice gA gn gc)).set z2 (Nat.zero_le _) (by simp) 3 (Value.slice iA im ic)).set z3 (Nat.zero_le _) (by simp) 4 (Value.slice cA cn cc)).set z4 (Nat.zero_le _) (by simp) 5 (Value.slice mA mn mc)).set z5 (Nat.zero_le _) (by simp) 6 (Value.slice eA en ec))
      refine bodyPost_ret (v := .tuple #[.agg #[.int .i64 T, .slice kA kn kc, .slice gA gn gc, .slice iA im ic, .slice cA cn cc, .slice mA mn mc, .slice eA en ec], .int .i64 0]) ?_ rfl (.inr ⟨rfl, .inl ⟨HG.out.1, HG.out.2, ⟨T, ⟨kA, kn, kc, ks, gA, gn, gc, gens, iA, im, ic, its⟩, cA, cn, cc, cts, mA, mn, mc, mds, eA, en, ec, evs⟩, rfl, Lib.hid ⟨hy.out.1.keep80 hK0, hy.out.2⟩⟩, (below_hi (below_hi (below_hi (below_hi (below_hi (below_hi (below_hi HBW3.out (by omega) 0 _) (by omega) 1 _) (by omega) 2 _) (by omega) 3 _) (by omega) 4 _) (by omega) 5 _) (by omega) 6 _)⟩)
      rw [results_c2 rfl]
      go_simp
    · have HG := Lib.hid h1
      clear h1
      go_wp2_with fail
      (try simp only [Exit.inBlock, Exit.then])
      refine bodyPost_ret (v := .tuple #[.agg #[.int .i64 0, .slice none 0 0, .slice none 0 0, .slice none 0 0, .slice none 0 0, .slice none 0 0, .slice none 0 0], .int .i64 3]) ?_ rfl (.inr ⟨rfl, .inr ⟨HG.out, rfl⟩, (below_hi (below_hi (below_hi (below_hi (below_hi (below_hi (below_hi HBW3.out (by omega) 0 _) (by omega) 1 _) (by omega) 2 _) (by omega) 3 _) (by omega) 4 _) (by omega) 5 _) (by omega) 6 _)⟩)
      rw [results_c2 rfl]
      go_simp
  · have h0' : ¬ (re == 0) = true := by simpa using h0
    have m0 : w2.cell? ⟨w.heap.size + 1, 0, none⟩ = some (.int .i64 0) := hx2.cell 0
    have f0 := hx2.frozen 0
    have m1 : w2.cell? ⟨w.heap.size + 1, 1, none⟩ = some (.slice none 0 0) := hx2.cell 1
    have f1 := hx2.frozen 1
    have m2 : w2.cell? ⟨w.heap.size + 1, 2, none⟩ = some (.slice none 0 0) := hx2.cell 2
    have f2 := hx2.frozen 2
    have m3 : w2.cell? ⟨w.heap.size + 1, 3, none⟩ = some (.slice none 0 0) := hx2.cell 3
    have f3 := hx2.frozen 3
    have m4 : w2.cell? ⟨w.heap.size + 1, 4, none⟩ = some (.slice none 0 0) := hx2.cell 4
    have f4 := hx2.frozen 4
    have m5 : w2.cell? ⟨w.heap.size + 1, 5, none⟩ = some (.slice none 0 0) := hx2.cell 5
    have f5 := hx2.frozen 5
    have m6 : w2.cell? ⟨w.heap.size + 1, 6, none⟩ = some (.slice none 0 0) := hx2.cell 6
    have f6 := hx2.frozen 6
    clear hx2 hb2 hown2
    go_wp2_with fail
    (try simp only [Exit.inBlock, Exit.then])
    refine bodyPost_ret (v := .tuple #[.agg #[.int .i64 0, .slice none 0 0, .slice none 0 0, .slice none 0 0, .slice none 0 0, .slice none 0 0, .slice none 0 0], .int .i64 re]) ?_ rfl (.inl ⟨h0, rfl, (below_hi (below_hi (below_hi (below_hi (below_hi (below_hi (below_hi HBW.out (by omega) 0 _) (by omega) 1 _) (by omega) 2 _) (by omega) 3 _) (by omega) 4 _) (by omega) 5 _) (by omega) 6 _)⟩)
    rw [results_c2 rfl]
    go_simp
end Go.Proofs.Ytnidcmhfbkdioaa
