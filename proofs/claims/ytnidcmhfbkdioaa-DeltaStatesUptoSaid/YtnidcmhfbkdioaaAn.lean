/-
  The bodies of the loops of game.Unflat. Conditions: what is read can be read.
-/
import Derived.Test.YtnidcmhfbkdioaaAc
import Derived.Test.YtnidcmhfbkdioaaAd
import Derived.Test.YtnidcmhfbkdioaaDz
namespace Go.Proofs.Ytnidcmhfbkdioaa
open Go.RowKit
set_option maxRecDepth 100000

theorem rep_at1 {s t : RS} {a : Int} {n : Nat} {l : List Int} {u : RS} (h : a = (rN s).1) (k : t = (rN s).2) (hr : rep rN n t = (l, u)) : rep rN (n + 1) s = (a :: l, u) := by
  rw [rep_front, ← k, hr, ← h]
theorem rCt_eq {s t0 t1 t2 t3 t4 t5 t6 t7 t8 t9 : RS} {a0 a1 a2 a3 a4 a5 a6 a7 a8 a9 : Int} (h0 : a0 = (rN s).1 ∧ t0 = (rN s).2) (h1 : a1 = (rN t0).1 ∧ t1 = (rN t0).2) (h2 : a2 = (rN t1).1 ∧ t2 = (rN t1).2) (h3 : a3 = (rN t2).1 ∧ t3 = (rN t2).2) (h4 : a4 = (rN t3).1 ∧ t4 = (rN t3).2) (h5 : a5 = (rN t4).1 ∧ t5 = (rN t4).2) (h6 : a6 = (rN t5).1 ∧ t6 = (rN t5).2) (h7 : a7 = (rN t6).1 ∧ t7 = (rN t6).2) (h8 : a8 = (rN t7).1 ∧ t8 = (rN t7).2) (h9 : a9 = (rN t8).1 ∧ t9 = (rN t8).2) : rCt s = ([a0, a1, a2, a3, a4, a5, a6, a7, a8, a9], t9) :=
  rep_at1 h0.1 h0.2 (rep_at1 h1.1 h1.2 (rep_at1 h2.1 h2.2 (rep_at1 h3.1 h3.2 (rep_at1 h4.1 h4.2 (rep_at1 h5.1 h5.2 (rep_at1 h6.1 h6.2 (rep_at1 h7.1 h7.2 (rep_at1 h8.1 h8.2 (rep_at1 h9.1 h9.2 rfl)))))))))
theorem rEv_eq {s t0 t1 t2 t3 : RS} {a0 a1 a2 a3 : Int} (h0 : a0 = (rN s).1 ∧ t0 = (rN s).2) (h1 : a1 = (rN t0).1 ∧ t1 = (rN t0).2) (h2 : a2 = (rN t1).1 ∧ t2 = (rN t1).2) (h3 : a3 = (rN t2).1 ∧ t3 = (rN t2).2) : rEv s = ([a0, a1, a2, a3], t3) :=
  rep_at1 h0.1 h0.2 (rep_at1 h1.1 h1.2 (rep_at1 h2.1 h2.2 (rep_at1 h3.1 h3.2 rfl)))
theorem rMd_eq {s t0 t1 t2 t3 : RS} {a0 a1 a2 : Int} {st : List Int} (h0 : a0 = (rN s).1 ∧ t0 = (rN s).2) (h1 : a1 = (rN t0).1 ∧ t1 = (rN t0).2) (h2 : a2 = (rN t1).1 ∧ t2 = (rN t1).2) (h3 : st = (rL t2).1 ∧ t3 = (rL t2).2) : rMd s = (([a0, a1, a2], st), t3) := by
  have h : rep rN 3 s = ([a0, a1, a2], t2) := rep_at1 h0.1 h0.2 (rep_at1 h1.1 h1.2 (rep_at1 h2.1 h2.2 rfl))
  unfold rMd
  rw [h, h3.1, h3.2]
theorem rSt_eq {s s1 s2 s3 s4 s5 s6 s7 s8 : RS} {T : Int} {pd : Wv Kp2} {n1 n2 n3 : Nat} {cts evs : List (List Int)} {mds : List (List Int × List Int)} (hT : T = (rN s).1) (hs1 : s1 = (rN s).2) (hpd : pd = (rWd s1).1) (hs2 : s2 = (rWd s1).2) (hn1 : n1 = (rM s2).1) (hs3 : s3 = (rM s2).2) (hcts : cts = (rep rCt n1 s3).1) (hs4 : s4 = (rep rCt n1 s3).2) (hn2 : n2 = (rM s4).1) (hs5 : s5 = (rM s4).2) (hmds : mds = (rep rMd n2 s5).1) (hs6 : s6 = (rep rMd n2 s5).2) (hn3 : n3 = (rM s6).1) (hs7 : s7 = (rM s6).2) (hevs : evs = (rep rEv n3 s7).1) (hs8 : s8 = (rep rEv n3 s7).2) : rSt s = (⟨T, pd, cts, mds, evs⟩, s8) := by
  subst_vars
  rfl
theorem rep_ok {α : Type} (f : RS → α × RS) (P : α → Prop) (h : ∀ s, P (f s).1) (n : Nat) (s : RS) : ∀ x ∈ (rep f n s).1, P x := by
  induction n with
  | zero => intro x hx; cases hx
  | succ n ih =>
    intro x hx
    rcases List.mem_append.1 hx with h1 | h1
    · exact ih x h1
    · rw [List.mem_singleton.1 h1]; exact h _
theorem rwCs_app (l : List (List Int)) (x : List Int) : rwCs (l ++ [x]) = rwCs l ++ x.map (Value.int .i64) := by simp [rwCs]
theorem mdCs_app (l : List Mdm) (x : Mdm) : mdCs (l ++ [x]) = mdCs l ++ x.cs := by simp [mdCs]


noncomputable def ufB1 : Code := (Try.f127.body.bind (blkN 1)).getD .skip
set_option maxHeartbeats 16000000 in
theorem ufB1_any {x0 x1 x2 x3 x6 x7 x8 x9 x10 x11 x12 x13 x14 x15 x16 x17 x18 x19 x20 x21 x22 x23 x24 x25 x26 x27 x28 x29 x30 x31 x32 x33 x34 x35 x36 x37 x38 x39 x40 x41 x42 x43 x44 x45 x46 x47 x48 x49 x50 x51 x52 x53 x54 x55 x56 x57 x58 x59 x60 x61 x62 x63 x64 x65 x66 x67 x68 x69 x70 x71 x72 x73 x74 x75 x76 x77 x78 x79 x80 x81 x82 x83 x84 x85 x86 x87 x88 x89 x90 x91 x92 x93 x94 x95 x96 x97 x98 x99 x100 x101 x102 x103 x104 x105 x106 x107 x108 x109 x110 x111 x112 x113 x114 x115 : Value} {Q : Exit → Act → World → Prop} {Tv : Int} {kA gA iA : Option Addr} {kn kc gn gc im ic : Nat} {ks : List Kd} {gens : List Int} {its : List It} {w wo : World} {B g h5 i n xc : Nat} {XA : Option Addr} {sI : RS} {xl : List (List Int)} (hB : B ≤ g) (hB0 : B ≤ w.heap.size) (hgw : w.heap.size < g) (hne5 : w.heap.size < h5 ∧ g < h5) (hwo : h5 < wo.heap.size) (hlt : i < n) (hn9 : n ≤ 1000000000) (hI9 : sI.1.length ≤ 1000000000) (HX5 : Hid (Bk wo h5 80 #[.int .i64 Tv, .slice kA kn kc, .slice gA gn gc, .slice iA im ic, .slice XA i xc, .slice none 0 0, .slice none 0 0])) (HX2 : Hid (Bk wo w.heap.size 80 #[.int .i64 0, .slice none 0 0, .slice none 0 0, .slice none 0 0, .slice none 0 0, .slice none 0 0, .slice none 0 0])) (HY : Hid (WdY wo 0 ⟨kA, kn, kc, ks, gA, gn, gc, gens, iA, im, ic, its⟩)) (HO : Hid (wo.ownsRow w.heap.size 131 10 (.slice XA i xc) i (rwCs xl))) (HR : Hid (RJ wo B g sI)) (HQ0 : Hid (Fq [g] w wo))
    (hN : ∀ (y6 y22 y23 y24 y25 y26 y27 y28 y29 y30 y31 y32 y33 y34 y35 y36 y37 y38 y39 y40 y41 y42 y43 y44 y45 y46 y47 y48 y49 y50 y51 y52 y53 y54 y55 : Value) (wN : World) (gB cB : Nat), Hid (Bk wN h5 80 #[.int .i64 Tv, .slice kA kn kc, .slice gA gn gc, .slice iA im ic, .slice (some ⟨gB, 0, none⟩) (i + 1) cB, .slice none 0 0, .slice none 0 0]) → Hid (Bk wN w.heap.size 80 #[.int .i64 0, .slice none 0 0, .slice none 0 0, .slice none 0 0, .slice none 0 0, .slice none 0 0, .slice none 0 0]) → Hid (WdY wN 0 ⟨kA, kn, kc, ks, gA, gn, gc, gens, iA, im, ic, its⟩) → Hid (wN.ownsRow w.heap.size 131 10 (.slice (some ⟨gB, 0, none⟩) (i + 1) cB) (i + 1) (rwCs (xl ++ [(rCt sI).1]))) → Hid (RJ wN B g (rCt sI).2) → Hid (Fq [g] w wN) → Q .normal ⟨#[x0, x1, x2, x3, .pointer (some ⟨g, 0, none⟩), .pointer (some ⟨h5, 0, none⟩), y6, x7, x8, x9, x10, x11, x12, x13, x14, x15, x16, x17, x18, x19, x20, x21, y22, y23, y24, y25, y26, y27, y28, y29, y30, y31, y32, y33, y34, y35, y36, y37, y38, y39, y40, y41, y42, y43, y44, y45, y46, y47, y48, y49, y50, y51, y52, y53, y54, y55, x56, x57, x58, x59, x60, x61, x62, x63, x64, x65, x66, x67, x68, x69, x70, x71, x72, x73, x74, x75, x76, x77, x78, x79, x80, x81, x82, x83, x84, x85, x86, x87, x88, x89, x90, x91, x92, x93, x94, x95, x96, x97, x98, x99, x100, x101, x102, x103, x104, x105, x106, x107, x108, x109, x110, x111, x112, x113, x114, x115], []⟩ wN) :
    Code.wp Try.prog ufB1 Q ⟨#[x0, x1, x2, x3, .pointer (some ⟨g, 0, none⟩), .pointer (some ⟨h5, 0, none⟩), x6, x7, x8, x9, x10, x11, x12, x13, x14, x15, x16, x17, x18, x19, x20, x21, x22, x23, x24, x25, x26, x27, x28, x29, x30, x31, x32, x33, x34, x35, x36, x37, x38, x39, x40, x41, x42, x43, x44, x45, x46, x47, x48, x49, x50, x51, x52, x53, x54, x55, x56, x57, x58, x59, x60, x61, x62, x63, x64, x65, x66, x67, x68, x69, x70, x71, x72, x73, x74, x75, x76, x77, x78, x79, x80, x81, x82, x83, x84, x85, x86, x87, x88, x89, x90, x91, x92, x93, x94, x95, x96, x97, x98, x99, x100, x101, x102, x103, x104, x105, x106, x107, x108, x109, x110, x111, x112, x113, x114, x115], []⟩ wo := by
  conv => arg 2; whnf
  obtain ⟨i1, hi1, hz10, hz11, hz12⟩ := info_parts T.info131S
  obtain ⟨i2, hi2, hz20, hz21, hz22⟩ := info_parts T.info225
  obtain ⟨i3, hi3, hz30, hz31, hz32⟩ := info_parts T.info227
  obtain ⟨a0, la0⟩ : ∃ z, z = (rN sI).1 := ⟨_, rfl⟩
  obtain ⟨t0, lt0⟩ : ∃ z, z = (rN sI).2 := ⟨_, rfl⟩
  obtain ⟨a1, la1⟩ : ∃ z, z = (rN t0).1 := ⟨_, rfl⟩
  obtain ⟨t1, lt1⟩ : ∃ z, z = (rN t0).2 := ⟨_, rfl⟩
  obtain ⟨a2, la2⟩ : ∃ z, z = (rN t1).1 := ⟨_, rfl⟩
  obtain ⟨t2, lt2⟩ : ∃ z, z = (rN t1).2 := ⟨_, rfl⟩
  obtain ⟨a3, la3⟩ : ∃ z, z = (rN t2).1 := ⟨_, rfl⟩
  obtain ⟨t3, lt3⟩ : ∃ z, z = (rN t2).2 := ⟨_, rfl⟩
  obtain ⟨a4, la4⟩ : ∃ z, z = (rN t3).1 := ⟨_, rfl⟩
  obtain ⟨t4, lt4⟩ : ∃ z, z = (rN t3).2 := ⟨_, rfl⟩
  obtain ⟨a5, la5⟩ : ∃ z, z = (rN t4).1 := ⟨_, rfl⟩
  obtain ⟨t5, lt5⟩ : ∃ z, z = (rN t4).2 := ⟨_, rfl⟩
  obtain ⟨a6, la6⟩ : ∃ z, z = (rN t5).1 := ⟨_, rfl⟩
  obtain ⟨t6, lt6⟩ : ∃ z, z = (rN t5).2 := ⟨_, rfl⟩
  obtain ⟨a7, la7⟩ : ∃ z, z = (rN t6).1 := ⟨_, rfl⟩
  obtain ⟨t7, lt7⟩ : ∃ z, z = (rN t6).2 := ⟨_, rfl⟩
  obtain ⟨a8, la8⟩ : ∃ z, z = (rN t7).1 := ⟨_, rfl⟩
  obtain ⟨t8, lt8⟩ : ∃ z, z = (rN t7).2 := ⟨_, rfl⟩
  obtain ⟨a9, la9⟩ : ∃ z, z = (rN t8).1 := ⟨_, rfl⟩
  obtain ⟨t9, lt9⟩ : ∃ z, z = (rN t8).2 := ⟨_, rfl⟩
  have HEL : Hid (rCt sI = ([a0, a1, a2, a3, a4, a5, a6, a7, a8, a9], t9)) := Lib.hid (rCt_eq ⟨la0, lt0⟩ ⟨la1, lt1⟩ ⟨la2, lt2⟩ ⟨la3, lt3⟩ ⟨la4, lt4⟩ ⟨la5, lt5⟩ ⟨la6, lt6⟩ ⟨la7, lt7⟩ ⟨la8, lt8⟩ ⟨la9, lt9⟩)
  have HEa0 := Lib.hid (And.intro la0 lt0)
  have HEa1 := Lib.hid (And.intro la1 lt1)
  have HEa2 := Lib.hid (And.intro la2 lt2)
  have HEa3 := Lib.hid (And.intro la3 lt3)
  have HEa4 := Lib.hid (And.intro la4 lt4)
  have HEa5 := Lib.hid (And.intro la5 lt5)
  have HEa6 := Lib.hid (And.intro la6 lt6)
  have HEa7 := Lib.hid (And.intro la7 lt7)
  have HEa8 := Lib.hid (And.intro la8 lt8)
  have HEa9 := Lib.hid (And.intro la9 lt9)
  clear la0 lt0 la1 lt1 la2 lt2 la3 lt3 la4 lt4 la5 lt5 la6 lt6 la7 lt7 la8 lt8 la9 lt9
  have HN := Lib.hid (by have := jnext_any g B sI wo HR.out hB; rw [← HEa0.out.1, ← HEa0.out.2] at this; exact this)
  go_wp2_with fail
  refine HN.out.mono ?_
  clear HN
  rintro e v0 ⟨rfl, hr, hg⟩
  have HRv0 := Lib.hid hr
  have HQv0 : Hid (Fq [g] wo v0) := Lib.hid ((Fq.refl : Fq [g] wo wo).gb hg)
  clear hr hg
  have HN := Lib.hid (by have := jnext_any g B t0 v0 HRv0.out hB; rw [← HEa1.out.1, ← HEa1.out.2] at this; exact this)
  go_wp2_with fail
  refine HN.out.mono ?_
  clear HN
  rintro e v1 ⟨rfl, hr, hg⟩
  have HRv1 := Lib.hid hr
  have HQv1 : Hid (Fq [g] wo v1) := Lib.hid (HQv0.out.gb hg)
  clear hr hg HRv0 HQv0
  have HN := Lib.hid (by have := jnext_any g B t1 v1 HRv1.out hB; rw [← HEa2.out.1, ← HEa2.out.2] at this; exact this)
  go_wp2_with fail
  refine HN.out.mono ?_
  clear HN
  rintro e v2 ⟨rfl, hr, hg⟩
  have HRv2 := Lib.hid hr
  have HQv2 : Hid (Fq [g] wo v2) := Lib.hid (HQv1.out.gb hg)
  clear hr hg HRv1 HQv1
  obtain ⟨v3, hv⟩ : ∃ z, z = v2.alloc (.cells #[.int .i64 a0, .int .i64 a1, .int .i64 a2, .int .i64 0, .int .i64 0, .int .i64 0, .int .i64 0, .int .i64 0, .int .i64 0, .int .i64 0] 131) := ⟨_, rfl⟩
  obtain ⟨hc, hhc⟩ : ∃ z, z = v2.heap.size := ⟨_, rfl⟩
  have hb : Below v2.heap.size v2 v3 := by rw [hv]; exact (Below.refl _ _).alloc (Nat.le_refl _) _
  have hwc : wo.heap.size ≤ hc := by rw [hhc]; exact HQv2.out.size
  have hgc : g < hc := by omega
  have HCv3 : Hid (Bk v3 hc 131 #[.int .i64 a0, .int .i64 a1, .int .i64 a2, .int .i64 0, .int .i64 0, .int .i64 0, .int .i64 0, .int .i64 0, .int .i64 0, .int .i64 0]) := Lib.hid (by rw [hv, hhc]; exact Bk.new _ _ _)
  have HRv3 := Lib.hid (HRv2.out.below hb (by rw [← hhc]; omega))
  have HQv3 : Hid (Fq [g] wo v3) := Lib.hid (HQv2.out.trans (Fq.of_below hb) (SubF.refl _ _))
  clear hb HRv2 HQv2
  have HN := Lib.hid (by have := jnext_any g B t2 v3 HRv3.out hB; rw [← HEa3.out.1, ← HEa3.out.2] at this; exact this)
  go_wp2_with fail
  rw [← hv, ← hhc]
  clear hv hhc
  refine HN.out.mono ?_
  clear HN
  rintro e v4 ⟨rfl, hr, hg⟩
  have HRv4 := Lib.hid hr
  have HQv4 : Hid (Fq [g] wo v4) := Lib.hid (HQv3.out.gb hg)
  have HCv4 : Hid (Bk v4 hc 131 #[.int .i64 a0, .int .i64 a1, .int .i64 a2, .int .i64 0, .int .i64 0, .int .i64 0, .int .i64 0, .int .i64 0, .int .i64 0, .int .i64 0]) := Lib.hid (HCv3.out.grown hg (fun e => by injection e with e; omega))
  clear hr hg HRv3 HQv3 HCv3
  have HN := Lib.hid (by have := jnext_any g B t3 v4 HRv4.out hB; rw [← HEa4.out.1, ← HEa4.out.2] at this; exact this)
  go_wp2_with fail
  refine HN.out.mono ?_
  clear HN
  rintro e v5 ⟨rfl, hr, hg⟩
  have HRv5 := Lib.hid hr
  have HQv5 : Hid (Fq [g] wo v5) := Lib.hid (HQv4.out.gb hg)
  have HCv5 : Hid (Bk v5 hc 131 #[.int .i64 a0, .int .i64 a1, .int .i64 a2, .int .i64 0, .int .i64 0, .int .i64 0, .int .i64 0, .int .i64 0, .int .i64 0, .int .i64 0]) := Lib.hid (HCv4.out.grown hg (fun e => by injection e with e; omega))
  clear hr hg HRv4 HQv4 HCv4
  have c3 : v5.cell? ⟨hc, 3, none⟩ = some (.int .i64 0) := HCv5.out.cell 3
  have f3 : v5.frozen? ⟨hc, 3, none⟩ = false := HCv5.out.frozen 3
  have c4 : v5.cell? ⟨hc, 4, none⟩ = some (.int .i64 0) := HCv5.out.cell 4
  have f4 : v5.frozen? ⟨hc, 4, none⟩ = false := HCv5.out.frozen 4
  obtain ⟨v6, hv⟩ : ∃ z, z = (v5.setCell ⟨hc, 3, none⟩ (.int .i64 a3)).setCell ⟨hc, 4, none⟩ (.int .i64 a4) := ⟨_, rfl⟩
  have HCv6 : Hid (Bk v6 hc 131 #[.int .i64 a0, .int .i64 a1, .int .i64 a2, .int .i64 a3, .int .i64 a4, .int .i64 0, .int .i64 0, .int .i64 0, .int .i64 0, .int .i64 0]) := Lib.hid (by rw [hv]; exact ((HCv5.out).set_ 3 (.int .i64 a3)).set_ 4 (.int .i64 a4))
  have HQv6 : Hid (Fq [g] wo v6) := Lib.hid (by rw [hv]; exact ((HQv5.out.set (.inr (by omega)) 3 (.int .i64 a3)).set (.inr (by omega)) 4 (.int .i64 a4)))
  have hkv : Kx B [131] v5 v6 := by rw [hv]; exact (((Kx.refl (B := B)).set (HCv5.out) (by omega) (by simp) 3 (.int .i64 a3)).set ((HCv5.out).set_ 3 (.int .i64 a3)) (by omega) (by simp) 4 (.int .i64 a4))
  have HRv6 := Lib.hid (HRv5.out.kx hkv (Nat.le_refl _) (HRv5.out.lo hB) (by decide))
  clear hkv HRv5 HQv5 HCv5
  have HN := Lib.hid (by have := jnext_any g B t4 v6 HRv6.out hB; rw [← HEa5.out.1, ← HEa5.out.2] at this; exact this)
  go_wp2_with fail
  rw [← hv]
  clear hv c3 f3 c4 f4
  refine HN.out.mono ?_
  clear HN
  rintro e v7 ⟨rfl, hr, hg⟩
  have HRv7 := Lib.hid hr
  have HQv7 : Hid (Fq [g] wo v7) := Lib.hid (HQv6.out.gb hg)
  have HCv7 : Hid (Bk v7 hc 131 #[.int .i64 a0, .int .i64 a1, .int .i64 a2, .int .i64 a3, .int .i64 a4, .int .i64 0, .int .i64 0, .int .i64 0, .int .i64 0, .int .i64 0]) := Lib.hid (HCv6.out.grown hg (fun e => by injection e with e; omega))
  clear hr hg HRv6 HQv6 HCv6
  have HN := Lib.hid (by have := jnext_any g B t5 v7 HRv7.out hB; rw [← HEa6.out.1, ← HEa6.out.2] at this; exact this)
  go_wp2_with fail
  refine HN.out.mono ?_
  clear HN
  rintro e v8 ⟨rfl, hr, hg⟩
  have HRv8 := Lib.hid hr
  have HQv8 : Hid (Fq [g] wo v8) := Lib.hid (HQv7.out.gb hg)
  have HCv8 : Hid (Bk v8 hc 131 #[.int .i64 a0, .int .i64 a1, .int .i64 a2, .int .i64 a3, .int .i64 a4, .int .i64 0, .int .i64 0, .int .i64 0, .int .i64 0, .int .i64 0]) := Lib.hid (HCv7.out.grown hg (fun e => by injection e with e; omega))
  clear hr hg HRv7 HQv7 HCv7
  have c5 : v8.cell? ⟨hc, 5, none⟩ = some (.int .i64 0) := HCv8.out.cell 5
  have f5 : v8.frozen? ⟨hc, 5, none⟩ = false := HCv8.out.frozen 5
  have c6 : v8.cell? ⟨hc, 6, none⟩ = some (.int .i64 0) := HCv8.out.cell 6
  have f6 : v8.frozen? ⟨hc, 6, none⟩ = false := HCv8.out.frozen 6
  obtain ⟨v9, hv⟩ : ∃ z, z = (v8.setCell ⟨hc, 5, none⟩ (.int .i64 a5)).setCell ⟨hc, 6, none⟩ (.int .i64 a6) := ⟨_, rfl⟩
  have HCv9 : Hid (Bk v9 hc 131 #[.int .i64 a0, .int .i64 a1, .int .i64 a2, .int .i64 a3, .int .i64 a4, .int .i64 a5, .int .i64 a6, .int .i64 0, .int .i64 0, .int .i64 0]) := Lib.hid (by rw [hv]; exact ((HCv8.out).set_ 5 (.int .i64 a5)).set_ 6 (.int .i64 a6))
  have HQv9 : Hid (Fq [g] wo v9) := Lib.hid (by rw [hv]; exact ((HQv8.out.set (.inr (by omega)) 5 (.int .i64 a5)).set (.inr (by omega)) 6 (.int .i64 a6)))
  have hkv : Kx B [131] v8 v9 := by rw [hv]; exact (((Kx.refl (B := B)).set (HCv8.out) (by omega) (by simp) 5 (.int .i64 a5)).set ((HCv8.out).set_ 5 (.int .i64 a5)) (by omega) (by simp) 6 (.int .i64 a6))
  have HRv9 := Lib.hid (HRv8.out.kx hkv (Nat.le_refl _) (HRv8.out.lo hB) (by decide))
  clear hkv HRv8 HQv8 HCv8
  have HN := Lib.hid (by have := jnext_any g B t6 v9 HRv9.out hB; rw [← HEa7.out.1, ← HEa7.out.2] at this; exact this)
  go_wp2_with fail
  rw [← hv]
  clear hv c5 f5 c6 f6
  refine HN.out.mono ?_
  clear HN
  rintro e v10 ⟨rfl, hr, hg⟩
  have HRv10 := Lib.hid hr
  have HQv10 : Hid (Fq [g] wo v10) := Lib.hid (HQv9.out.gb hg)
  have HCv10 : Hid (Bk v10 hc 131 #[.int .i64 a0, .int .i64 a1, .int .i64 a2, .int .i64 a3, .int .i64 a4, .int .i64 a5, .int .i64 a6, .int .i64 0, .int .i64 0, .int .i64 0]) := Lib.hid (HCv9.out.grown hg (fun e => by injection e with e; omega))
  clear hr hg HRv9 HQv9 HCv9
  have HN := Lib.hid (by have := jnext_any g B t7 v10 HRv10.out hB; rw [← HEa8.out.1, ← HEa8.out.2] at this; exact this)
  go_wp2_with fail
  refine HN.out.mono ?_
  clear HN
  rintro e v11 ⟨rfl, hr, hg⟩
  have HRv11 := Lib.hid hr
  have HQv11 : Hid (Fq [g] wo v11) := Lib.hid (HQv10.out.gb hg)
  have HCv11 : Hid (Bk v11 hc 131 #[.int .i64 a0, .int .i64 a1, .int .i64 a2, .int .i64 a3, .int .i64 a4, .int .i64 a5, .int .i64 a6, .int .i64 0, .int .i64 0, .int .i64 0]) := Lib.hid (HCv10.out.grown hg (fun e => by injection e with e; omega))
  clear hr hg HRv10 HQv10 HCv10
  have HN := Lib.hid (by have := jnext_any g B t8 v11 HRv11.out hB; rw [← HEa9.out.1, ← HEa9.out.2] at this; exact this)
  go_wp2_with fail
  refine HN.out.mono ?_
  clear HN
  rintro e v12 ⟨rfl, hr, hg⟩
  have HRv12 := Lib.hid hr
  have HQv12 : Hid (Fq [g] wo v12) := Lib.hid (HQv11.out.gb hg)
  have HCv12 : Hid (Bk v12 hc 131 #[.int .i64 a0, .int .i64 a1, .int .i64 a2, .int .i64 a3, .int .i64 a4, .int .i64 a5, .int .i64 a6, .int .i64 0, .int .i64 0, .int .i64 0]) := Lib.hid (HCv11.out.grown hg (fun e => by injection e with e; omega))
  clear hr hg HRv11 HQv11 HCv11
  have c7 : v12.cell? ⟨hc, 7, none⟩ = some (.int .i64 0) := HCv12.out.cell 7
  have f7 : v12.frozen? ⟨hc, 7, none⟩ = false := HCv12.out.frozen 7
  have c8 : v12.cell? ⟨hc, 8, none⟩ = some (.int .i64 0) := HCv12.out.cell 8
  have f8 : v12.frozen? ⟨hc, 8, none⟩ = false := HCv12.out.frozen 8
  have c9 : v12.cell? ⟨hc, 9, none⟩ = some (.int .i64 0) := HCv12.out.cell 9
  have f9 : v12.frozen? ⟨hc, 9, none⟩ = false := HCv12.out.frozen 9
  obtain ⟨v13, hv⟩ : ∃ z, z = ((v12.setCell ⟨hc, 7, none⟩ (.int .i64 a7)).setCell ⟨hc, 8, none⟩ (.int .i64 a8)).setCell ⟨hc, 9, none⟩ (.int .i64 a9) := ⟨_, rfl⟩
  have HCv13 : Hid (Bk v13 hc 131 #[.int .i64 a0, .int .i64 a1, .int .i64 a2, .int .i64 a3, .int .i64 a4, .int .i64 a5, .int .i64 a6, .int .i64 a7, .int .i64 a8, .int .i64 a9]) := Lib.hid (by rw [hv]; exact (((HCv12.out).set_ 7 (.int .i64 a7)).set_ 8 (.int .i64 a8)).set_ 9 (.int .i64 a9))
  have HQv13 : Hid (Fq [g] wo v13) := Lib.hid (by rw [hv]; exact (((HQv12.out.set (.inr (by omega)) 7 (.int .i64 a7)).set (.inr (by omega)) 8 (.int .i64 a8)).set (.inr (by omega)) 9 (.int .i64 a9)))
  have hkv : Kx B [131] v12 v13 := by rw [hv]; exact ((((Kx.refl (B := B)).set (HCv12.out) (by omega) (by simp) 7 (.int .i64 a7)).set ((HCv12.out).set_ 7 (.int .i64 a7)) (by omega) (by simp) 8 (.int .i64 a8)).set (((HCv12.out).set_ 7 (.int .i64 a7)).set_ 8 (.int .i64 a8)) (by omega) (by simp) 9 (.int .i64 a9))
  have HRv13 := Lib.hid (HRv12.out.kx hkv (Nat.le_refl _) (HRv12.out.lo hB) (by decide))
  clear hkv HRv12 HQv12 HCv12
  go_upto_region 10 with fail
  rw [← hv]
  clear hv c7 f7 c8 f8 c9 f9
  have hkf : Kx 0 [299] wo v13 := Kx.fqJ HQv13.out HR.out (Nat.zero_le _)
  have HX5x : Hid (Bk v13 h5 80 #[.int .i64 Tv, .slice kA kn kc, .slice gA gn gc, .slice iA im ic, .slice XA i xc, .slice none 0 0, .slice none 0 0]) := Lib.hid (hkf.bk HX5.out (by decide))
  have HX2x : Hid (Bk v13 w.heap.size 80 #[.int .i64 0, .slice none 0 0, .slice none 0 0, .slice none 0 0, .slice none 0 0, .slice none 0 0, .slice none 0 0]) := Lib.hid (hkf.bk HX2.out (by decide))
  have HYx : Hid (WdY v13 0 ⟨kA, kn, kc, ks, gA, gn, gc, gens, iA, im, ic, its⟩) := Lib.hid (HY.out.keep hkf (by decide) (by decide) (by decide) (by decide) (by decide))
  have HOx : Hid (v13.ownsRow w.heap.size 131 10 (.slice XA i xc) i (rwCs xl)) := Lib.hid (hkf.own HO.out (by decide))
  have e0 : v13.cell? ⟨h5, 4, none⟩ = some (.slice XA i xc) := HX5x.out.cell 4
  have d0 : v13.cell? ⟨hc, 0, none⟩ = some (.int .i64 a0) := HCv13.out.cell 0
  have d1 : v13.cell? ⟨hc, 1, none⟩ = some (.int .i64 a1) := HCv13.out.cell 1
  have d2 : v13.cell? ⟨hc, 2, none⟩ = some (.int .i64 a2) := HCv13.out.cell 2
  have d3 : v13.cell? ⟨hc, 3, none⟩ = some (.int .i64 a3) := HCv13.out.cell 3
  have d4 : v13.cell? ⟨hc, 4, none⟩ = some (.int .i64 a4) := HCv13.out.cell 4
  have d5 : v13.cell? ⟨hc, 5, none⟩ = some (.int .i64 a5) := HCv13.out.cell 5
  have d6 : v13.cell? ⟨hc, 6, none⟩ = some (.int .i64 a6) := HCv13.out.cell 6
  have d7 : v13.cell? ⟨hc, 7, none⟩ = some (.int .i64 a7) := HCv13.out.cell 7
  have d8 : v13.cell? ⟨hc, 8, none⟩ = some (.int .i64 a8) := HCv13.out.cell 8
  have d9 : v13.cell? ⟨hc, 9, none⟩ = some (.int .i64 a9) := HCv13.out.cell 9
  have hxs : h5 < v13.heap.size := HX5x.out.lt
  go_wp2_with
    (at_builtin
     go_must (refine wpList_append_one _ rfl (.tmp 51) (.tmp 53) _ rfl w.heap.size 131 i1 (.agg #[.int .i64 0, .int .i64 0, .int .i64 0, .int .i64 0, .int .i64 0, .int .i64 0, .int .i64 0, .int .i64 0, .int .i64 0, .int .i64 0]) 10 80 Try.underlying76 hi1 hz10 hz11 hz12 rfl (by decide) (.slice XA i xc) i _ rfl (HOx.out.alloc _) v13.heap.size 1 131 #[.int .i64 a0, .int .i64 a1, .int .i64 a2, .int .i64 a3, .int .i64 a4, .int .i64 a5, .int .i64 a6, .int .i64 a7, .int .i64 a8, .int .i64 a9] rfl (Bk.new _ _ _) rfl ?c1 (i + 1) rfl ?c2 ?c3 ?c4 ?_)
     case c1 => simp [Value.oneCell']
     case c2 => unfold maxLen; omega
     case c3 => omega
     case c4 => simp; omega
     intro gB cB wB hownB hgB hatB
     have hkB := (HX5x.out.alloc (.cells #[.int .i64 a0, .int .i64 a1, .int .i64 a2, .int .i64 a3, .int .i64 a4, .int .i64 a5, .int .i64 a6, .int .i64 a7, .int .i64 a8, .int .i64 a9] 131)).grown hgB (fun e => own_ne HOx.out HX5x.out (by decide) e.symm)
     have hkB2 := (HX2x.out.alloc (.cells #[.int .i64 a0, .int .i64 a1, .int .i64 a2, .int .i64 a3, .int .i64 a4, .int .i64 a5, .int .i64 a6, .int .i64 a7, .int .i64 a8, .int .i64 a9] 131)).grown hgB (fun e => own_ne HOx.out HX2x.out (by decide) e.symm)
     have cB1 : wB.cell? ⟨h5, 4, none⟩ = some (.slice XA i xc) := hkB.cell 4
     have fB1 : wB.frozen? ⟨h5, 4, none⟩ = false := hkB.frozen 4)
  obtain ⟨wN, hwN⟩ : ∃ wN, wN = wB.setCell ⟨h5, 4, none⟩ (.slice (some ⟨gB, 0, none⟩) (i + 1) cB) := ⟨_, rfl⟩
  have hkx : Kx B [131, 80] v13 wN := by rw [hwN]; exact (((Kx.refl (B := B)).alloc _).grown (World.ownsRow.alloc HOx.out _) hgB (by omega) (by simp)).set hkB (by omega) (by simp) 4 _
  have hkx0 : Kx 0 [131, 80] v13 wN := hkx.mono (Nat.zero_le _) (fun _ h => h)
  have HX5n : Hid (Bk wN h5 80 #[.int .i64 Tv, .slice kA kn kc, .slice gA gn gc, .slice iA im ic, .slice (some ⟨gB, 0, none⟩) (i + 1) cB, .slice none 0 0, .slice none 0 0]) := Lib.hid (by rw [hwN]; exact hkB.set_ 4 _)
  have HX2n : Hid (Bk wN w.heap.size 80 #[.int .i64 0, .slice none 0 0, .slice none 0 0, .slice none 0 0, .slice none 0 0, .slice none 0 0, .slice none 0 0]) := Lib.hid (by rw [hwN]; exact hkB2.far (by show w.heap.size ≠ h5; omega) _)
  have HYn : Hid (WdY wN 0 ⟨kA, kn, kc, ks, gA, gn, gc, gens, iA, im, ic, its⟩) := Lib.hid (HYx.out.keep hkx0 (by decide) (by decide) (by decide) (by decide) (by decide))
  have HOn : Hid (wN.ownsRow w.heap.size 131 10 (.slice (some ⟨gB, 0, none⟩) (i + 1) cB) (i + 1) (rwCs (xl ++ [(rCt sI).1]))) := Lib.hid (by
    rw [hwN, HEL.out, rwCs_app]
    exact own_farU hownB hkB (by decide) 4 _)
  have HRn : Hid (RJ wN B g (rCt sI).2) := Lib.hid (by rw [HEL.out]; exact HRv13.out.kx hkx (Nat.le_refl _) (HRv13.out.lo hB) (by decide))
  have HQn : Hid (Fq [g] w wN) := Lib.hid (by
    rw [hwN]
    exact ((((HQ0.out.trans HQv13.out (SubF.refl _ _)).alloc _).grown hgB (fun q hq => .inr (HOx.out.lt q hq).1))).set (.inr (by omega)) 4 _)
  clear hkx hkx0 hkf hownB hgB hatB hkB2
  go_wp2_with fail
  rw [← hwN]
  clear hwN hkB cB1 fB1 e0 d0 d1 d2 d3 d4 d5 d6 d7 d8 d9
  apply hN
  case a => exact HX5n
  all_goals first | assumption | skip
noncomputable def ufB3 : Code := (Try.f127.body.bind (blkN 3)).getD .skip
set_option maxHeartbeats 16000000 in
theorem ufB3_any {x0 x1 x2 x3 x6 x7 x8 x9 x10 x11 x12 x13 x14 x15 x16 x17 x18 x19 x20 x21 x22 x23 x24 x25 x26 x27 x28 x29 x30 x31 x32 x33 x34 x35 x36 x37 x38 x39 x40 x41 x42 x43 x44 x45 x46 x47 x48 x49 x50 x51 x52 x53 x54 x55 x56 x57 x58 x59 x60 x61 x62 x63 x64 x65 x66 x67 x68 x69 x70 x71 x72 x73 x74 x75 x76 x77 x78 x79 x80 x81 x82 x83 x84 x85 x86 x87 x88 x89 x90 x91 x92 x93 x94 x95 x96 x97 x98 x99 x100 x101 x102 x103 x104 x105 x106 x107 x108 x109 x110 x111 x112 x113 x114 x115 : Value} {Q : Exit → Act → World → Prop} {Tv : Int} {kA gA iA cA : Option Addr} {kn kc gn gc im ic cn cc : Nat} {ks : List Kd} {gens : List Int} {its : List It} {cts : List (List Int)} {w wo : World} {B g h5 i n xc : Nat} {XA : Option Addr} {sI : RS} {xl : List (List Int × List Int)} (ml : List Mdm) (hB : B ≤ g) (hB0 : B ≤ w.heap.size) (hgw : w.heap.size < g) (hne5 : w.heap.size < h5 ∧ g < h5) (hwo : h5 < wo.heap.size) (hlt : i < n) (hn9 : n ≤ 1000000000) (hI9 : sI.1.length ≤ 1000000000) (HX5 : Hid (Bk wo h5 80 #[.int .i64 Tv, .slice kA kn kc, .slice gA gn gc, .slice iA im ic, .slice cA cn cc, .slice XA i xc, .slice none 0 0])) (HX2 : Hid (Bk wo w.heap.size 80 #[.int .i64 0, .slice none 0 0, .slice none 0 0, .slice none 0 0, .slice none 0 0, .slice none 0 0, .slice none 0 0])) (HY : Hid (WdY wo 0 ⟨kA, kn, kc, ks, gA, gn, gc, gens, iA, im, ic, its⟩)) (HP0 : Hid (wo.ownsRow w.heap.size 131 10 (.slice cA cn cc) cn (rwCs cts))) (HO : Hid (wo.ownsRow w.heap.size 225 4 (.slice XA i xc) i (mdCs ml) ∧ ml.map Mdm.p = xl ∧ ∀ z ∈ ml, MdY wo 0 z)) (HR : Hid (RJ wo B g sI)) (HQ0 : Hid (Fq [g] w wo))
    (hN : ∀ (y7 y61 y62 y63 y64 y65 y66 y67 y68 y69 y70 y71 y72 y73 y74 y75 y76 y77 : Value) (wN : World) (gB cB : Nat) (ml2 : List Mdm), Hid (Bk wN h5 80 #[.int .i64 Tv, .slice kA kn kc, .slice gA gn gc, .slice iA im ic, .slice cA cn cc, .slice (some ⟨gB, 0, none⟩) (i + 1) cB, .slice none 0 0]) → Hid (Bk wN w.heap.size 80 #[.int .i64 0, .slice none 0 0, .slice none 0 0, .slice none 0 0, .slice none 0 0, .slice none 0 0, .slice none 0 0]) → Hid (WdY wN 0 ⟨kA, kn, kc, ks, gA, gn, gc, gens, iA, im, ic, its⟩) → Hid (wN.ownsRow w.heap.size 131 10 (.slice cA cn cc) cn (rwCs cts)) → Hid (wN.ownsRow w.heap.size 225 4 (.slice (some ⟨gB, 0, none⟩) (i + 1) cB) (i + 1) (mdCs ml2) ∧ ml2.map Mdm.p = xl ++ [(rMd sI).1] ∧ ∀ z ∈ ml2, MdY wN 0 z) → Hid (RJ wN B g (rMd sI).2) → Hid (Fq [g] w wN) → Q .normal ⟨#[x0, x1, x2, x3, .pointer (some ⟨g, 0, none⟩), .pointer (some ⟨h5, 0, none⟩), x6, y7, x8, x9, x10, x11, x12, x13, x14, x15, x16, x17, x18, x19, x20, x21, x22, x23, x24, x25, x26, x27, x28, x29, x30, x31, x32, x33, x34, x35, x36, x37, x38, x39, x40, x41, x42, x43, x44, x45, x46, x47, x48, x49, x50, x51, x52, x53, x54, x55, x56, x57, x58, x59, x60, y61, y62, y63, y64, y65, y66, y67, y68, y69, y70, y71, y72, y73, y74, y75, y76, y77, x78, x79, x80, x81, x82, x83, x84, x85, x86, x87, x88, x89, x90, x91, x92, x93, x94, x95, x96, x97, x98, x99, x100, x101, x102, x103, x104, x105, x106, x107, x108, x109, x110, x111, x112, x113, x114, x115], []⟩ wN) :
    Code.wp Try.prog ufB3 Q ⟨#[x0, x1, x2, x3, .pointer (some ⟨g, 0, none⟩), .pointer (some ⟨h5, 0, none⟩), x6, x7, x8, x9, x10, x11, x12, x13, x14, x15, x16, x17, x18, x19, x20, x21, x22, x23, x24, x25, x26, x27, x28, x29, x30, x31, x32, x33, x34, x35, x36, x37, x38, x39, x40, x41, x42, x43, x44, x45, x46, x47, x48, x49, x50, x51, x52, x53, x54, x55, x56, x57, x58, x59, x60, x61, x62, x63, x64, x65, x66, x67, x68, x69, x70, x71, x72, x73, x74, x75, x76, x77, x78, x79, x80, x81, x82, x83, x84, x85, x86, x87, x88, x89, x90, x91, x92, x93, x94, x95, x96, x97, x98, x99, x100, x101, x102, x103, x104, x105, x106, x107, x108, x109, x110, x111, x112, x113, x114, x115], []⟩ wo := by
  conv => arg 2; whnf
  obtain ⟨i1, hi1, hz10, hz11, hz12⟩ := info_parts T.info131S
  obtain ⟨i2, hi2, hz20, hz21, hz22⟩ := info_parts T.info225
  obtain ⟨i3, hi3, hz30, hz31, hz32⟩ := info_parts T.info227
  obtain ⟨a0, la0⟩ : ∃ z, z = (rN sI).1 := ⟨_, rfl⟩
  obtain ⟨t0, lt0⟩ : ∃ z, z = (rN sI).2 := ⟨_, rfl⟩
  obtain ⟨a1, la1⟩ : ∃ z, z = (rN t0).1 := ⟨_, rfl⟩
  obtain ⟨t1, lt1⟩ : ∃ z, z = (rN t0).2 := ⟨_, rfl⟩
  obtain ⟨a2, la2⟩ : ∃ z, z = (rN t1).1 := ⟨_, rfl⟩
  obtain ⟨t2, lt2⟩ : ∃ z, z = (rN t1).2 := ⟨_, rfl⟩
  obtain ⟨st, lst⟩ : ∃ z, z = (rL t2).1 := ⟨_, rfl⟩
  obtain ⟨t3, lt3⟩ : ∃ z, z = (rL t2).2 := ⟨_, rfl⟩
  have HEL : Hid (rMd sI = (([a0, a1, a2], st), t3)) := Lib.hid (rMd_eq ⟨la0, lt0⟩ ⟨la1, lt1⟩ ⟨la2, lt2⟩ ⟨lst, lt3⟩)
  have ht9 : t2.1.length ≤ 1000000000 := by rw [lt2]; refine Nat.le_trans (rN_le _) ?_; rw [lt1]; refine Nat.le_trans (rN_le _) ?_; rw [lt0]; exact Nat.le_trans (rN_le _) hI9
  have HEa0 := Lib.hid (And.intro la0 lt0)
  have HEa1 := Lib.hid (And.intro la1 lt1)
  have HEa2 := Lib.hid (And.intro la2 lt2)
  have HEst := Lib.hid (And.intro lst lt3)
  clear la0 lt0 la1 lt1 la2 lt2 lst lt3
  have HN := Lib.hid (by have := jnext_any g B sI wo HR.out hB; rw [← HEa0.out.1, ← HEa0.out.2] at this; exact this)
  go_wp2_with fail
  refine HN.out.mono ?_
  clear HN
  rintro e v0 ⟨rfl, hr, hg⟩
  have HRv0 := Lib.hid hr
  have HQv0 : Hid (Fq [g] wo v0) := Lib.hid ((Fq.refl : Fq [g] wo wo).gb hg)
  clear hr hg
  have HN := Lib.hid (by have := jnext_any g B t0 v0 HRv0.out hB; rw [← HEa1.out.1, ← HEa1.out.2] at this; exact this)
  go_wp2_with fail
  refine HN.out.mono ?_
  clear HN
  rintro e v1 ⟨rfl, hr, hg⟩
  have HRv1 := Lib.hid hr
  have HQv1 : Hid (Fq [g] wo v1) := Lib.hid (HQv0.out.gb hg)
  clear hr hg HRv0 HQv0
  have HN := Lib.hid (by have := jnext_any g B t1 v1 HRv1.out hB; rw [← HEa2.out.1, ← HEa2.out.2] at this; exact this)
  go_wp2_with fail
  refine HN.out.mono ?_
  clear HN
  rintro e v2 ⟨rfl, hr, hg⟩
  have HRv2 := Lib.hid hr
  have HQv2 : Hid (Fq [g] wo v2) := Lib.hid (HQv1.out.gb hg)
  clear hr hg HRv1 HQv1
  obtain ⟨v3, hv⟩ : ∃ z, z = v2.alloc (.cells #[.int .i64 a0, .int .i64 a1, .int .i64 a2, .slice none 0 0] 225) := ⟨_, rfl⟩
  obtain ⟨hc, hhc⟩ : ∃ z, z = v2.heap.size := ⟨_, rfl⟩
  have hb : Below v2.heap.size v2 v3 := by rw [hv]; exact (Below.refl _ _).alloc (Nat.le_refl _) _
  have hwc : wo.heap.size ≤ hc := by rw [hhc]; exact HQv2.out.size
  have hgc : g < hc := by omega
  have HCv3 : Hid (Bk v3 hc 225 #[.int .i64 a0, .int .i64 a1, .int .i64 a2, .slice none 0 0]) := Lib.hid (by rw [hv, hhc]; exact Bk.new _ _ _)
  have HRv3 := Lib.hid (HRv2.out.below hb (by rw [← hhc]; omega))
  have HQv3 : Hid (Fq [g] wo v3) := Lib.hid (HQv2.out.trans (Fq.of_below hb) (SubF.refl _ _))
  clear hb HRv2 HQv2
  have HN := Lib.hid (by have := jlist_any g B t2 v3 HRv3.out hB ht9; rw [← HEst.out.1, ← HEst.out.2] at this; exact this)
  go_wp2_with fail
  rw [← hv, ← hhc]
  clear hv hhc
  refine HN.out.mono ?_
  clear HN
  rintro e v4 ⟨SA, sc, rfl, hown, hr, hg⟩
  have HRv4 := Lib.hid hr
  have HQv4 : Hid (Fq [g] wo v4) := Lib.hid (HQv3.out.gb hg)
  have HCv4 : Hid (Bk v4 hc 225 #[.int .i64 a0, .int .i64 a1, .int .i64 a2, .slice none 0 0]) := Lib.hid (HCv3.out.grown hg (fun e => by injection e with e; omega))
  obtain ⟨sn, hsn⟩ : ∃ sn, sn = st.length := ⟨_, rfl⟩
  rw [← hsn] at hown ⊢
  have HSN := Lib.hid hsn
  have HOS := Lib.hid hown
  clear hown hsn
  clear hr hg HRv3 HQv3 HCv3
  have c3 : v4.cell? ⟨hc, 3, none⟩ = some (.slice none 0 0) := HCv4.out.cell 3
  have f3 : v4.frozen? ⟨hc, 3, none⟩ = false := HCv4.out.frozen 3
  obtain ⟨v5, hv⟩ : ∃ z, z = v4.setCell ⟨hc, 3, none⟩ (.slice SA sn sc) := ⟨_, rfl⟩
  have HCv5 : Hid (Bk v5 hc 225 #[.int .i64 a0, .int .i64 a1, .int .i64 a2, .slice SA sn sc]) := Lib.hid (by rw [hv]; exact (HCv4.out).set_ 3 (.slice SA sn sc))
  have HQv5 : Hid (Fq [g] wo v5) := Lib.hid (by rw [hv]; exact (HQv4.out.set (.inr (by omega)) 3 (.slice SA sn sc)))
  have hkv : Kx B [225] v4 v5 := by rw [hv]; exact ((Kx.refl (B := B)).set (HCv4.out) (by omega) (by simp) 3 (.slice SA sn sc))
  have HRv5 := Lib.hid (HRv4.out.kx hkv (Nat.le_refl _) (HRv4.out.lo hB) (by decide))
  have HOS2 : Hid (v5.ownsRow v3.heap.size 3 1 (.slice SA sn sc) sn (st.map (Value.int .i64))) := Lib.hid ((hkv.mono (B' := 0) (G := [225]) (Nat.zero_le _) (fun _ h => h)).own HOS.out (by decide))
  clear HOS
  clear hkv HRv4 HQv4 HCv4
  go_upto_region 16 with fail
  rw [← hv]
  clear hv c3 f3
  have hkf : Kx 0 [299] wo v5 := Kx.fqJ HQv5.out HR.out (Nat.zero_le _)
  have HX5x : Hid (Bk v5 h5 80 #[.int .i64 Tv, .slice kA kn kc, .slice gA gn gc, .slice iA im ic, .slice cA cn cc, .slice XA i xc, .slice none 0 0]) := Lib.hid (hkf.bk HX5.out (by decide))
  have HX2x : Hid (Bk v5 w.heap.size 80 #[.int .i64 0, .slice none 0 0, .slice none 0 0, .slice none 0 0, .slice none 0 0, .slice none 0 0, .slice none 0 0]) := Lib.hid (hkf.bk HX2.out (by decide))
  have HYx : Hid (WdY v5 0 ⟨kA, kn, kc, ks, gA, gn, gc, gens, iA, im, ic, its⟩) := Lib.hid (HY.out.keep hkf (by decide) (by decide) (by decide) (by decide) (by decide))
  have HP0x : Hid (v5.ownsRow w.heap.size 131 10 (.slice cA cn cc) cn (rwCs cts)) := Lib.hid (hkf.own HP0.out (by decide))
  have HOx : Hid (v5.ownsRow w.heap.size 225 4 (.slice XA i xc) i (mdCs ml)) := Lib.hid (hkf.own HO.out.1 (by decide))
  have HMx : Hid (∀ z ∈ ml, MdY v5 0 z) := Lib.hid (fun z hz => (HO.out.2.2 z hz).keep hkf (by decide))
  have e0 : v5.cell? ⟨h5, 5, none⟩ = some (.slice XA i xc) := HX5x.out.cell 5
  have d0 : v5.cell? ⟨hc, 0, none⟩ = some (.int .i64 a0) := HCv5.out.cell 0
  have d1 : v5.cell? ⟨hc, 1, none⟩ = some (.int .i64 a1) := HCv5.out.cell 1
  have d2 : v5.cell? ⟨hc, 2, none⟩ = some (.int .i64 a2) := HCv5.out.cell 2
  have d3 : v5.cell? ⟨hc, 3, none⟩ = some (.slice SA sn sc) := HCv5.out.cell 3
  have hxs : h5 < v5.heap.size := HX5x.out.lt
  go_wp2_with
    (at_builtin
     go_must (refine wpList_append_one _ rfl (.tmp 73) (.tmp 75) _ rfl w.heap.size 225 i2 (.agg #[.int .i64 0, .int .i64 0, .int .i64 0, .slice none 0 0]) 4 48 Try.underlying77 hi2 hz20 hz21 hz22 rfl (by decide) (.slice XA i xc) i _ rfl (HOx.out.alloc _) v5.heap.size 1 225 #[.int .i64 a0, .int .i64 a1, .int .i64 a2, .slice SA sn sc] rfl (Bk.new _ _ _) rfl ?c1 (i + 1) rfl ?c2 ?c3 ?c4 ?_)
     case c1 => simp [Value.oneCell']
     case c2 => unfold maxLen; omega
     case c3 => omega
     case c4 => simp; omega
     intro gB cB wB hownB hgB hatB
     have hkB := (HX5x.out.alloc (.cells #[.int .i64 a0, .int .i64 a1, .int .i64 a2, .slice SA sn sc] 225)).grown hgB (fun e => own_ne HOx.out HX5x.out (by decide) e.symm)
     have hkB2 := (HX2x.out.alloc (.cells #[.int .i64 a0, .int .i64 a1, .int .i64 a2, .slice SA sn sc] 225)).grown hgB (fun e => own_ne HOx.out HX2x.out (by decide) e.symm)
     have cB1 : wB.cell? ⟨h5, 5, none⟩ = some (.slice XA i xc) := hkB.cell 5
     have fB1 : wB.frozen? ⟨h5, 5, none⟩ = false := hkB.frozen 5)
  obtain ⟨wN, hwN⟩ : ∃ wN, wN = wB.setCell ⟨h5, 5, none⟩ (.slice (some ⟨gB, 0, none⟩) (i + 1) cB) := ⟨_, rfl⟩
  have hkx : Kx B [225, 80] v5 wN := by rw [hwN]; exact (((Kx.refl (B := B)).alloc _).grown (World.ownsRow.alloc HOx.out _) hgB (by omega) (by simp)).set hkB (by omega) (by simp) 5 _
  have hkx0 : Kx 0 [225, 80] v5 wN := hkx.mono (Nat.zero_le _) (fun _ h => h)
  have HX5n : Hid (Bk wN h5 80 #[.int .i64 Tv, .slice kA kn kc, .slice gA gn gc, .slice iA im ic, .slice cA cn cc, .slice (some ⟨gB, 0, none⟩) (i + 1) cB, .slice none 0 0]) := Lib.hid (by rw [hwN]; exact hkB.set_ 5 _)
  have HX2n : Hid (Bk wN w.heap.size 80 #[.int .i64 0, .slice none 0 0, .slice none 0 0, .slice none 0 0, .slice none 0 0, .slice none 0 0, .slice none 0 0]) := Lib.hid (by rw [hwN]; exact hkB2.far (by show w.heap.size ≠ h5; omega) _)
  have HYn : Hid (WdY wN 0 ⟨kA, kn, kc, ks, gA, gn, gc, gens, iA, im, ic, its⟩) := Lib.hid (HYx.out.keep hkx0 (by decide) (by decide) (by decide) (by decide) (by decide))
  have HP0n : Hid (wN.ownsRow w.heap.size 131 10 (.slice cA cn cc) cn (rwCs cts)) := Lib.hid (hkx0.own HP0x.out (by decide))
  have hz : MdY wN 0 ⟨a0, a1, a2, SA, sn, sc, st⟩ := by
    have h1 := hkx0.own HOS2.out (by decide)
    have h2 := own_cap2 h1
    exact ⟨RdY.of_own h1, HSN.out, h2.1, h2.2⟩
  have HOn : Hid (wN.ownsRow w.heap.size 225 4 (.slice (some ⟨gB, 0, none⟩) (i + 1) cB) (i + 1) (mdCs (ml ++ [(⟨a0, a1, a2, SA, sn, sc, st⟩ : Mdm)])) ∧ (ml ++ [(⟨a0, a1, a2, SA, sn, sc, st⟩ : Mdm)]).map Mdm.p = xl ++ [(rMd sI).1] ∧ ∀ z ∈ ml ++ [(⟨a0, a1, a2, SA, sn, sc, st⟩ : Mdm)], MdY wN 0 z) := Lib.hid (by
    refine ⟨?_, ?_, ?_⟩
    · rw [hwN, mdCs_app]
      exact own_farU hownB hkB (by decide) 5 _
    · rw [List.map_append, HO.out.2.1, HEL.out]; rfl
    · intro z hz1
      rcases List.mem_append.1 hz1 with h | h
      · exact (HMx.out z h).keep hkx0 (by decide)
      · have := List.mem_singleton.1 h
        subst this
        exact hz)
  have HRn : Hid (RJ wN B g (rMd sI).2) := Lib.hid (by rw [HEL.out]; exact HRv5.out.kx hkx (Nat.le_refl _) (HRv5.out.lo hB) (by decide))
  have HQn : Hid (Fq [g] w wN) := Lib.hid (by
    rw [hwN]
    exact ((((HQ0.out.trans HQv5.out (SubF.refl _ _)).alloc _).grown hgB (fun q hq => .inr (HOx.out.lt q hq).1))).set (.inr (by omega)) 5 _)
  clear hkx hkx0 hkf hz hownB hgB hatB hkB2
  go_wp2_with fail
  rw [← hwN]
  clear hwN hkB cB1 fB1 e0 d0 d1 d2 d3
  apply hN
  case a => exact HX5n
  all_goals first | assumption | skip
noncomputable def ufB5 : Code := (Try.f127.body.bind (blkN 5)).getD .skip
set_option maxHeartbeats 16000000 in
theorem ufB5_any {x0 x1 x2 x3 x6 x7 x8 x9 x10 x11 x12 x13 x14 x15 x16 x17 x18 x19 x20 x21 x22 x23 x24 x25 x26 x27 x28 x29 x30 x31 x32 x33 x34 x35 x36 x37 x38 x39 x40 x41 x42 x43 x44 x45 x46 x47 x48 x49 x50 x51 x52 x53 x54 x55 x56 x57 x58 x59 x60 x61 x62 x63 x64 x65 x66 x67 x68 x69 x70 x71 x72 x73 x74 x75 x76 x77 x78 x79 x80 x81 x82 x83 x84 x85 x86 x87 x88 x89 x90 x91 x92 x93 x94 x95 x96 x97 x98 x99 x100 x101 x102 x103 x104 x105 x106 x107 x108 x109 x110 x111 x112 x113 x114 x115 : Value} {Q : Exit → Act → World → Prop} {Tv : Int} {kA gA iA cA mA : Option Addr} {kn kc gn gc im ic cn cc mn mc : Nat} {ks : List Kd} {gens : List Int} {its : List It} {cts : List (List Int)} {ml : List Mdm} {mds : List (List Int × List Int)} {w wo : World} {B g h5 i n xc : Nat} {XA : Option Addr} {sI : RS} {xl : List (List Int)} (hB : B ≤ g) (hB0 : B ≤ w.heap.size) (hgw : w.heap.size < g) (hne5 : w.heap.size < h5 ∧ g < h5) (hwo : h5 < wo.heap.size) (hlt : i < n) (hn9 : n ≤ 1000000000) (hI9 : sI.1.length ≤ 1000000000) (HX5 : Hid (Bk wo h5 80 #[.int .i64 Tv, .slice kA kn kc, .slice gA gn gc, .slice iA im ic, .slice cA cn cc, .slice mA mn mc, .slice XA i xc])) (HX2 : Hid (Bk wo w.heap.size 80 #[.int .i64 0, .slice none 0 0, .slice none 0 0, .slice none 0 0, .slice none 0 0, .slice none 0 0, .slice none 0 0])) (HY : Hid (WdY wo 0 ⟨kA, kn, kc, ks, gA, gn, gc, gens, iA, im, ic, its⟩)) (HP0 : Hid (wo.ownsRow w.heap.size 131 10 (.slice cA cn cc) cn (rwCs cts))) (HP1 : Hid (wo.ownsRow w.heap.size 225 4 (.slice mA mn mc) mn (mdCs ml) ∧ ml.map Mdm.p = mds ∧ ∀ z ∈ ml, MdY wo 0 z)) (HO : Hid (wo.ownsRow w.heap.size 227 4 (.slice XA i xc) i (rwCs xl))) (HR : Hid (RJ wo B g sI)) (HQ0 : Hid (Fq [g] w wo))
    (hN : ∀ (y8 y83 y84 y85 y86 y87 y88 y89 y90 y91 y92 y93 y94 y95 y96 y97 y98 y99 y100 : Value) (wN : World) (gB cB : Nat), Hid (Bk wN h5 80 #[.int .i64 Tv, .slice kA kn kc, .slice gA gn gc, .slice iA im ic, .slice cA cn cc, .slice mA mn mc, .slice (some ⟨gB, 0, none⟩) (i + 1) cB]) → Hid (Bk wN w.heap.size 80 #[.int .i64 0, .slice none 0 0, .slice none 0 0, .slice none 0 0, .slice none 0 0, .slice none 0 0, .slice none 0 0]) → Hid (WdY wN 0 ⟨kA, kn, kc, ks, gA, gn, gc, gens, iA, im, ic, its⟩) → Hid (wN.ownsRow w.heap.size 131 10 (.slice cA cn cc) cn (rwCs cts)) → Hid (wN.ownsRow w.heap.size 225 4 (.slice mA mn mc) mn (mdCs ml) ∧ ml.map Mdm.p = mds ∧ ∀ z ∈ ml, MdY wN 0 z) → Hid (wN.ownsRow w.heap.size 227 4 (.slice (some ⟨gB, 0, none⟩) (i + 1) cB) (i + 1) (rwCs (xl ++ [(rEv sI).1]))) → Hid (RJ wN B g (rEv sI).2) → Hid (Fq [g] w wN) → Q .normal ⟨#[x0, x1, x2, x3, .pointer (some ⟨g, 0, none⟩), .pointer (some ⟨h5, 0, none⟩), x6, x7, y8, x9, x10, x11, x12, x13, x14, x15, x16, x17, x18, x19, x20, x21, x22, x23, x24, x25, x26, x27, x28, x29, x30, x31, x32, x33, x34, x35, x36, x37, x38, x39, x40, x41, x42, x43, x44, x45, x46, x47, x48, x49, x50, x51, x52, x53, x54, x55, x56, x57, x58, x59, x60, x61, x62, x63, x64, x65, x66, x67, x68, x69, x70, x71, x72, x73, x74, x75, x76, x77, x78, x79, x80, x81, x82, y83, y84, y85, y86, y87, y88, y89, y90, y91, y92, y93, y94, y95, y96, y97, y98, y99, y100, x101, x102, x103, x104, x105, x106, x107, x108, x109, x110, x111, x112, x113, x114, x115], []⟩ wN) :
    Code.wp Try.prog ufB5 Q ⟨#[x0, x1, x2, x3, .pointer (some ⟨g, 0, none⟩), .pointer (some ⟨h5, 0, none⟩), x6, x7, x8, x9, x10, x11, x12, x13, x14, x15, x16, x17, x18, x19, x20, x21, x22, x23, x24, x25, x26, x27, x28, x29, x30, x31, x32, x33, x34, x35, x36, x37, x38, x39, x40, x41, x42, x43, x44, x45, x46, x47, x48, x49, x50, x51, x52, x53, x54, x55, x56, x57, x58, x59, x60, x61, x62, x63, x64, x65, x66, x67, x68, x69, x70, x71, x72, x73, x74, x75, x76, x77, x78, x79, x80, x81, x82, x83, x84, x85, x86, x87, x88, x89, x90, x91, x92, x93, x94, x95, x96, x97, x98, x99, x100, x101, x102, x103, x104, x105, x106, x107, x108, x109, x110, x111, x112, x113, x114, x115], []⟩ wo := by
  conv => arg 2; whnf
  obtain ⟨i1, hi1, hz10, hz11, hz12⟩ := info_parts T.info131S
  obtain ⟨i2, hi2, hz20, hz21, hz22⟩ := info_parts T.info225
  obtain ⟨i3, hi3, hz30, hz31, hz32⟩ := info_parts T.info227
  obtain ⟨a0, la0⟩ : ∃ z, z = (rN sI).1 := ⟨_, rfl⟩
  obtain ⟨t0, lt0⟩ : ∃ z, z = (rN sI).2 := ⟨_, rfl⟩
  obtain ⟨a1, la1⟩ : ∃ z, z = (rN t0).1 := ⟨_, rfl⟩
  obtain ⟨t1, lt1⟩ : ∃ z, z = (rN t0).2 := ⟨_, rfl⟩
  obtain ⟨a2, la2⟩ : ∃ z, z = (rN t1).1 := ⟨_, rfl⟩
  obtain ⟨t2, lt2⟩ : ∃ z, z = (rN t1).2 := ⟨_, rfl⟩
  obtain ⟨a3, la3⟩ : ∃ z, z = (rN t2).1 := ⟨_, rfl⟩
  obtain ⟨t3, lt3⟩ : ∃ z, z = (rN t2).2 := ⟨_, rfl⟩
  have HEL : Hid (rEv sI = ([a0, a1, a2, a3], t3)) := Lib.hid (rEv_eq ⟨la0, lt0⟩ ⟨la1, lt1⟩ ⟨la2, lt2⟩ ⟨la3, lt3⟩)
  have HEa0 := Lib.hid (And.intro la0 lt0)
  have HEa1 := Lib.hid (And.intro la1 lt1)
  have HEa2 := Lib.hid (And.intro la2 lt2)
  have HEa3 := Lib.hid (And.intro la3 lt3)
  clear la0 lt0 la1 lt1 la2 lt2 la3 lt3
  have HN := Lib.hid (by have := jnext_any g B sI wo HR.out hB; rw [← HEa0.out.1, ← HEa0.out.2] at this; exact this)
  go_wp2_with fail
  refine HN.out.mono ?_
  clear HN
  rintro e v0 ⟨rfl, hr, hg⟩
  have HRv0 := Lib.hid hr
  have HQv0 : Hid (Fq [g] wo v0) := Lib.hid ((Fq.refl : Fq [g] wo wo).gb hg)
  clear hr hg
  obtain ⟨v1, hv⟩ : ∃ z, z = v0.alloc (.cells #[.int .i64 a0, .int .i64 0, .int .i64 0, .int .i64 0] 227) := ⟨_, rfl⟩
  obtain ⟨hc, hhc⟩ : ∃ z, z = v0.heap.size := ⟨_, rfl⟩
  have hb : Below v0.heap.size v0 v1 := by rw [hv]; exact (Below.refl _ _).alloc (Nat.le_refl _) _
  have hwc : wo.heap.size ≤ hc := by rw [hhc]; exact HQv0.out.size
  have hgc : g < hc := by omega
  have HCv1 : Hid (Bk v1 hc 227 #[.int .i64 a0, .int .i64 0, .int .i64 0, .int .i64 0]) := Lib.hid (by rw [hv, hhc]; exact Bk.new _ _ _)
  have HRv1 := Lib.hid (HRv0.out.below hb (by rw [← hhc]; omega))
  have HQv1 : Hid (Fq [g] wo v1) := Lib.hid (HQv0.out.trans (Fq.of_below hb) (SubF.refl _ _))
  clear hb HRv0 HQv0
  have HN := Lib.hid (by have := jnext_any g B t0 v1 HRv1.out hB; rw [← HEa1.out.1, ← HEa1.out.2] at this; exact this)
  go_wp2_with fail
  rw [← hv, ← hhc]
  clear hv hhc
  refine HN.out.mono ?_
  clear HN
  rintro e v2 ⟨rfl, hr, hg⟩
  have HRv2 := Lib.hid hr
  have HQv2 : Hid (Fq [g] wo v2) := Lib.hid (HQv1.out.gb hg)
  have HCv2 : Hid (Bk v2 hc 227 #[.int .i64 a0, .int .i64 0, .int .i64 0, .int .i64 0]) := Lib.hid (HCv1.out.grown hg (fun e => by injection e with e; omega))
  clear hr hg HRv1 HQv1 HCv1
  have HN := Lib.hid (by have := jnext_any g B t1 v2 HRv2.out hB; rw [← HEa2.out.1, ← HEa2.out.2] at this; exact this)
  go_wp2_with fail
  refine HN.out.mono ?_
  clear HN
  rintro e v3 ⟨rfl, hr, hg⟩
  have HRv3 := Lib.hid hr
  have HQv3 : Hid (Fq [g] wo v3) := Lib.hid (HQv2.out.gb hg)
  have HCv3 : Hid (Bk v3 hc 227 #[.int .i64 a0, .int .i64 0, .int .i64 0, .int .i64 0]) := Lib.hid (HCv2.out.grown hg (fun e => by injection e with e; omega))
  clear hr hg HRv2 HQv2 HCv2
  have c1 : v3.cell? ⟨hc, 1, none⟩ = some (.int .i64 0) := HCv3.out.cell 1
  have f1 : v3.frozen? ⟨hc, 1, none⟩ = false := HCv3.out.frozen 1
  have c2 : v3.cell? ⟨hc, 2, none⟩ = some (.int .i64 0) := HCv3.out.cell 2
  have f2 : v3.frozen? ⟨hc, 2, none⟩ = false := HCv3.out.frozen 2
  obtain ⟨v4, hv⟩ : ∃ z, z = (v3.setCell ⟨hc, 1, none⟩ (.int .i64 a1)).setCell ⟨hc, 2, none⟩ (.int .i64 a2) := ⟨_, rfl⟩
  have HCv4 : Hid (Bk v4 hc 227 #[.int .i64 a0, .int .i64 a1, .int .i64 a2, .int .i64 0]) := Lib.hid (by rw [hv]; exact ((HCv3.out).set_ 1 (.int .i64 a1)).set_ 2 (.int .i64 a2))
  have HQv4 : Hid (Fq [g] wo v4) := Lib.hid (by rw [hv]; exact ((HQv3.out.set (.inr (by omega)) 1 (.int .i64 a1)).set (.inr (by omega)) 2 (.int .i64 a2)))
  have hkv : Kx B [227] v3 v4 := by rw [hv]; exact (((Kx.refl (B := B)).set (HCv3.out) (by omega) (by simp) 1 (.int .i64 a1)).set ((HCv3.out).set_ 1 (.int .i64 a1)) (by omega) (by simp) 2 (.int .i64 a2))
  have HRv4 := Lib.hid (HRv3.out.kx hkv (Nat.le_refl _) (HRv3.out.lo hB) (by decide))
  clear hkv HRv3 HQv3 HCv3
  have HN := Lib.hid (by have := jnext_any g B t2 v4 HRv4.out hB; rw [← HEa3.out.1, ← HEa3.out.2] at this; exact this)
  go_wp2_with fail
  rw [← hv]
  clear hv c1 f1 c2 f2
  refine HN.out.mono ?_
  clear HN
  rintro e v5 ⟨rfl, hr, hg⟩
  have HRv5 := Lib.hid hr
  have HQv5 : Hid (Fq [g] wo v5) := Lib.hid (HQv4.out.gb hg)
  have HCv5 : Hid (Bk v5 hc 227 #[.int .i64 a0, .int .i64 a1, .int .i64 a2, .int .i64 0]) := Lib.hid (HCv4.out.grown hg (fun e => by injection e with e; omega))
  clear hr hg HRv4 HQv4 HCv4
  have c3 : v5.cell? ⟨hc, 3, none⟩ = some (.int .i64 0) := HCv5.out.cell 3
  have f3 : v5.frozen? ⟨hc, 3, none⟩ = false := HCv5.out.frozen 3
  obtain ⟨v6, hv⟩ : ∃ z, z = v5.setCell ⟨hc, 3, none⟩ (.int .i64 a3) := ⟨_, rfl⟩
  have HCv6 : Hid (Bk v6 hc 227 #[.int .i64 a0, .int .i64 a1, .int .i64 a2, .int .i64 a3]) := Lib.hid (by rw [hv]; exact (HCv5.out).set_ 3 (.int .i64 a3))
  have HQv6 : Hid (Fq [g] wo v6) := Lib.hid (by rw [hv]; exact (HQv5.out.set (.inr (by omega)) 3 (.int .i64 a3)))
  have hkv : Kx B [227] v5 v6 := by rw [hv]; exact ((Kx.refl (B := B)).set (HCv5.out) (by omega) (by simp) 3 (.int .i64 a3))
  have HRv6 := Lib.hid (HRv5.out.kx hkv (Nat.le_refl _) (HRv5.out.lo hB) (by decide))
  clear hkv HRv5 HQv5 HCv5
  go_upto_region 23 with fail
  rw [← hv]
  clear hv c3 f3
  have hkf : Kx 0 [299] wo v6 := Kx.fqJ HQv6.out HR.out (Nat.zero_le _)
  have HX5x : Hid (Bk v6 h5 80 #[.int .i64 Tv, .slice kA kn kc, .slice gA gn gc, .slice iA im ic, .slice cA cn cc, .slice mA mn mc, .slice XA i xc]) := Lib.hid (hkf.bk HX5.out (by decide))
  have HX2x : Hid (Bk v6 w.heap.size 80 #[.int .i64 0, .slice none 0 0, .slice none 0 0, .slice none 0 0, .slice none 0 0, .slice none 0 0, .slice none 0 0]) := Lib.hid (hkf.bk HX2.out (by decide))
  have HYx : Hid (WdY v6 0 ⟨kA, kn, kc, ks, gA, gn, gc, gens, iA, im, ic, its⟩) := Lib.hid (HY.out.keep hkf (by decide) (by decide) (by decide) (by decide) (by decide))
  have HP0x : Hid (v6.ownsRow w.heap.size 131 10 (.slice cA cn cc) cn (rwCs cts)) := Lib.hid (hkf.own HP0.out (by decide))
  have HP1x : Hid (v6.ownsRow w.heap.size 225 4 (.slice mA mn mc) mn (mdCs ml) ∧ ml.map Mdm.p = mds ∧ ∀ z ∈ ml, MdY v6 0 z) := Lib.hid ⟨hkf.own HP1.out.1 (by decide), HP1.out.2.1, fun z hz => (HP1.out.2.2 z hz).keep hkf (by decide)⟩
  have HOx : Hid (v6.ownsRow w.heap.size 227 4 (.slice XA i xc) i (rwCs xl)) := Lib.hid (hkf.own HO.out (by decide))
  have e0 : v6.cell? ⟨h5, 6, none⟩ = some (.slice XA i xc) := HX5x.out.cell 6
  have d0 : v6.cell? ⟨hc, 0, none⟩ = some (.int .i64 a0) := HCv6.out.cell 0
  have d1 : v6.cell? ⟨hc, 1, none⟩ = some (.int .i64 a1) := HCv6.out.cell 1
  have d2 : v6.cell? ⟨hc, 2, none⟩ = some (.int .i64 a2) := HCv6.out.cell 2
  have d3 : v6.cell? ⟨hc, 3, none⟩ = some (.int .i64 a3) := HCv6.out.cell 3
  have hxs : h5 < v6.heap.size := HX5x.out.lt
  go_wp2_with
    (at_builtin
     go_must (refine wpList_append_one _ rfl (.tmp 96) (.tmp 98) _ rfl w.heap.size 227 i3 (.agg #[.int .i64 0, .int .i64 0, .int .i64 0, .int .i64 0]) 4 32 Try.underlying78 hi3 hz30 hz31 hz32 rfl (by decide) (.slice XA i xc) i _ rfl (HOx.out.alloc _) v6.heap.size 1 227 #[.int .i64 a0, .int .i64 a1, .int .i64 a2, .int .i64 a3] rfl (Bk.new _ _ _) rfl ?c1 (i + 1) rfl ?c2 ?c3 ?c4 ?_)
     case c1 => simp [Value.oneCell']
     case c2 => unfold maxLen; omega
     case c3 => omega
     case c4 => simp; omega
     intro gB cB wB hownB hgB hatB
     have hkB := (HX5x.out.alloc (.cells #[.int .i64 a0, .int .i64 a1, .int .i64 a2, .int .i64 a3] 227)).grown hgB (fun e => own_ne HOx.out HX5x.out (by decide) e.symm)
     have hkB2 := (HX2x.out.alloc (.cells #[.int .i64 a0, .int .i64 a1, .int .i64 a2, .int .i64 a3] 227)).grown hgB (fun e => own_ne HOx.out HX2x.out (by decide) e.symm)
     have cB1 : wB.cell? ⟨h5, 6, none⟩ = some (.slice XA i xc) := hkB.cell 6
     have fB1 : wB.frozen? ⟨h5, 6, none⟩ = false := hkB.frozen 6)
  obtain ⟨wN, hwN⟩ : ∃ wN, wN = wB.setCell ⟨h5, 6, none⟩ (.slice (some ⟨gB, 0, none⟩) (i + 1) cB) := ⟨_, rfl⟩
  have hkx : Kx B [227, 80] v6 wN := by rw [hwN]; exact (((Kx.refl (B := B)).alloc _).grown (World.ownsRow.alloc HOx.out _) hgB (by omega) (by simp)).set hkB (by omega) (by simp) 6 _
  have hkx0 : Kx 0 [227, 80] v6 wN := hkx.mono (Nat.zero_le _) (fun _ h => h)
  have HX5n : Hid (Bk wN h5 80 #[.int .i64 Tv, .slice kA kn kc, .slice gA gn gc, .slice iA im ic, .slice cA cn cc, .slice mA mn mc, .slice (some ⟨gB, 0, none⟩) (i + 1) cB]) := Lib.hid (by rw [hwN]; exact hkB.set_ 6 _)
  have HX2n : Hid (Bk wN w.heap.size 80 #[.int .i64 0, .slice none 0 0, .slice none 0 0, .slice none 0 0, .slice none 0 0, .slice none 0 0, .slice none 0 0]) := Lib.hid (by rw [hwN]; exact hkB2.far (by show w.heap.size ≠ h5; omega) _)
  have HYn : Hid (WdY wN 0 ⟨kA, kn, kc, ks, gA, gn, gc, gens, iA, im, ic, its⟩) := Lib.hid (HYx.out.keep hkx0 (by decide) (by decide) (by decide) (by decide) (by decide))
  have HP0n : Hid (wN.ownsRow w.heap.size 131 10 (.slice cA cn cc) cn (rwCs cts)) := Lib.hid (hkx0.own HP0x.out (by decide))
  have HP1n : Hid (wN.ownsRow w.heap.size 225 4 (.slice mA mn mc) mn (mdCs ml) ∧ ml.map Mdm.p = mds ∧ ∀ z ∈ ml, MdY wN 0 z) := Lib.hid ⟨hkx0.own HP1x.out.1 (by decide), HP1x.out.2.1, fun z hz => (HP1x.out.2.2 z hz).keep hkx0 (by decide)⟩
  have HOn : Hid (wN.ownsRow w.heap.size 227 4 (.slice (some ⟨gB, 0, none⟩) (i + 1) cB) (i + 1) (rwCs (xl ++ [(rEv sI).1]))) := Lib.hid (by
    rw [hwN, HEL.out, rwCs_app]
    exact own_farU hownB hkB (by decide) 6 _)
  have HRn : Hid (RJ wN B g (rEv sI).2) := Lib.hid (by rw [HEL.out]; exact HRv6.out.kx hkx (Nat.le_refl _) (HRv6.out.lo hB) (by decide))
  have HQn : Hid (Fq [g] w wN) := Lib.hid (by
    rw [hwN]
    exact ((((HQ0.out.trans HQv6.out (SubF.refl _ _)).alloc _).grown hgB (fun q hq => .inr (HOx.out.lt q hq).1))).set (.inr (by omega)) 6 _)
  clear hkx hkx0 hkf hownB hgB hatB hkB2
  go_wp2_with fail
  rw [← hwN]
  clear hwN hkB cB1 fB1 e0 d0 d1 d2 d3
  apply hN
  case a => exact HX5n
  all_goals first | assumption | skip
end Go.Proofs.Ytnidcmhfbkdioaa
