/-
  Lemmas for the walk, merged (Bi Ci Cj). No condition but those in each statement.
-/
import Derived.Deep.CutBlock
import Derived.Test.YtnidcmhfbkdioaaSk11
import Derived.Test.YtnidcmhfbkdioaaSk16
namespace Go.Proofs.Ytnidcmhfbkdioaa
/-! ### Bi -/
open Go.RowKit
set_option maxRecDepth 100000
theorem T.info131 : (Try.prog.info? 131).map (fun i => (i.zero, i.size, i.bytes)) = some (some (.agg #[.int .i64 0, .int .i64 0, .int .i64 0, .int .i64 0, .int .i64 0, .int .i64 0, .int .i64 0, .int .i64 0, .int .i64 0, .int .i64 0]), 10, 80) := by kernel_rfl
noncomputable def scCon : Code := (Try.f56.body.bind (blkN 3)).getD .skip
theorem own_farB {w : World} {base size n b i : Nat} {e : TypeId} {v : Value} {xs : List Value} (h : w.ownsRow base e size v n xs) (hb : v.ownBlock ≠ some b) {u : Value} : (w.setCell ⟨b, i, none⟩ u).ownsRow base e size v n xs := by
  refine ⟨h.1, ?_⟩
  rcases h.2 with h1 | ⟨g, cap, cur, h1, h2, h3, h4⟩
  · exact .inl h1
  · refine .inr ⟨g, cap, cur, h1, h2, ?_, h4⟩
    have : g ≠ b := fun e => hb (by rw [h1, e]; rfl)
    exact (Below.heap_setCell w ⟨b, i, none⟩ u g this).trans h3
set_option maxHeartbeats 8000000 in
theorem scCon_any {x0 x1 x2 x3 x4 x5 x6 x7 x8 x9 x10 x11 x12 x13 x15 x17 x18 x19 x20 x21 x22 x23 x24 x25 x26 x27 x28 x29 x30 x31 x32 x33 x34 x35 x36 x37 x38 x39 x40 x41 x42 x43 x44 x45 x46 x47 x48 x49 x50 x51 x52 x53 x54 x55 x56 x57 x58 x59 x60 x61 x62 x63 x64 x65 x66 x67 x68 x69 x70 x71 x72 x73 x74 x75 x76 x77 x78 x79 x80 x81 x82 x83 x85 x87 x88 x89 x90 x91 x92 x93 x94 x95 x96 x97 x98 x99 x100 x101 x102 x103 x104 x105 x106 x107 x108 x109 x110 x111 x112 x113 x114 x115 x116 x117 x118 x119 x120 : Value} {Q : Exit → Act → World → Prop} {w0 : World} {B base sA mp nm cn cc j kn kc : Nat} {cA kA : Option Addr} {cl D : List Ct} {ct : Ct} {f : Int → Option Int} {V0 V1 V2 V3 : Value}
    (hrd : Rd w0 B 10 cA cn (ctCs cl)) (hcl : cn = cl.length) (_hcap : cn ≤ cc) (_hcap2 : cc ≤ 9223372036854775807) (hj : cl[j]? = some ct) (hwa : (Lit.int .i64 ct.a).wf = true) (hwb : (Lit.int .i64 ct.b).wf = true) (hM : MpI w0 mp nm f)
    (hS : Bk w0 sA 115 #[V0, .slice none 0 0, .slice kA kn kc, V1, V2, V3]) (hO : w0.ownsRow base 131 10 (.slice kA kn kc) kn (ctCs D)) (hkn : (kn + 1) * 80 ≤ 140737488355328) (hbase : base ≤ w0.heap.size) (hsA : base ≤ sA)
    (hN : ∀ (y22 y23 y24 y25 y26 y88 y89 y90 y91 y92 y93 y94 y95 y96 y97 y98 y99 y100 y101 y102 y103 y104 y105 y106 y107 y108 y109 y110 y111 y112 y113 y114 y115 y116 y117 : Value) (w' : World), Hid ((∃ kA' kn' kc', Bk w' sA 115 #[V0, .slice none 0 0, .slice kA' kn' kc', V1, V2, V3] ∧ w'.ownsRow base 131 10 (.slice kA' kn' kc') kn' (ctCs (D ++ ctF1 f ct)) ∧ kn' ≤ kn + 1) ∧ Kz [131, 115] w0 w' ∧ Below base w0 w' ∧ ∀ g cs, g ≠ sA → Bk w0 g 115 cs → Bk w' g 115 cs) → Q .normal ⟨#[x0, x1, x2, x3, x4, x5, x6, x7, x8, x9, x10, x11, x12, x13, .pointer (some ⟨sA, 0, none⟩), x15, .map (some mp), x17, x18, x19, x20, x21, y22, y23, y24, y25, y26, x27, x28, x29, x30, x31, x32, x33, x34, x35, x36, x37, x38, x39, x40, x41, x42, x43, x44, x45, x46, x47, x48, x49, x50, x51, x52, x53, x54, x55, x56, x57, x58, x59, x60, x61, x62, x63, x64, x65, x66, x67, x68, x69, x70, x71, x72, x73, x74, x75, x76, x77, x78, x79, x80, x81, x82, x83, .slice cA cn cc, x85, .int .i64 (j : Int), x87, y88, y89, y90, y91, y92, y93, y94, y95, y96, y97, y98, y99, y100, y101, y102, y103, y104, y105, y106, y107, y108, y109, y110, y111, y112, y113, y114, y115, y116, y117, x118, x119, x120], []⟩ w') :
    Code.wp Try.prog scCon Q ⟨#[x0, x1, x2, x3, x4, x5, x6, x7, x8, x9, x10, x11, x12, x13, .pointer (some ⟨sA, 0, none⟩), x15, .map (some mp), x17, x18, x19, x20, x21, x22, x23, x24, x25, x26, x27, x28, x29, x30, x31, x32, x33, x34, x35, x36, x37, x38, x39, x40, x41, x42, x43, x44, x45, x46, x47, x48, x49, x50, x51, x52, x53, x54, x55, x56, x57, x58, x59, x60, x61, x62, x63, x64, x65, x66, x67, x68, x69, x70, x71, x72, x73, x74, x75, x76, x77, x78, x79, x80, x81, x82, x83, .slice cA cn cc, x85, .int .i64 (j : Int), x87, x88, x89, x90, x91, x92, x93, x94, x95, x96, x97, x98, x99, x100, x101, x102, x103, x104, x105, x106, x107, x108, x109, x110, x111, x112, x113, x114, x115, x116, x117, x118, x119, x120], []⟩ w0 := by
  conv => arg 2; whnf
  obtain ⟨iC, hiC, hC0, hC1, hC2⟩ := info_parts T.info131
  have hjn : j < cn := by rw [hcl]; exact (List.getElem?_eq_some_iff.1 hj).1
  obtain ⟨bi, oi, hcA, hbi, q0, q1, q2, q3, q4, q5, q6, q7, q8, q9⟩ := Rd.ct hrd hjn hj
  subst hcA
  have hjz : (j : Int) < cn := by omega
  have hjz0 : (0 : Int) ≤ j := by omega
  obtain ⟨ca, hca⟩ : ∃ z, z = w0.heap.size := ⟨_, rfl⟩
  obtain ⟨W1, hW1⟩ : ∃ z, z = w0.alloc (.cells #[.int .i64 ct.a, .int .i64 ct.b, .int .i64 ct.id, .int .i64 ct.px, .int .i64 ct.py, .int .i64 ct.nx, .int .i64 ct.ny, .int .i64 ct.dp, .int .i64 ct.ps, .int .i64 ct.sl] 131) := ⟨_, rfl⟩
  have hb1 : Below w0.heap.size w0 W1 := by rw [hW1]; exact (Below.refl _ _).alloc (Nat.le_refl _) _
  have HCA : Hid (Bk W1 ca 131 #[.int .i64 ct.a, .int .i64 ct.b, .int .i64 ct.id, .int .i64 ct.px, .int .i64 ct.py, .int .i64 ct.nx, .int .i64 ct.ny, .int .i64 ct.dp, .int .i64 ct.ps, .int .i64 ct.sl]) := Lib.hid (by rw [hW1, hca]; exact Bk.new _ _ _)
  have HS1 : Hid (Bk W1 sA 115 #[V0, .slice none 0 0, .slice kA kn kc, V1, V2, V3]) := Lib.hid (hS.below hb1 hS.lt)
  have HO1 : Hid (W1.ownsRow base 131 10 (.slice kA kn kc) kn (ctCs D)) := Lib.hid ((Kx.of_below (B := 0) (F := []) hb1).own hO (by simp))
  have HNE : Hid ((Value.slice kA kn kc).ownBlock ≠ some ca) := Lib.hid (by
    intro e
    have := (hO.lt ca e).2
    omega)
  have hM1 : MpI W1 mp nm f := hM.keep (F := []) (Kz.of_below hb1)
  have hla := hM1.look (t := 238) Try.underlying238 hwa W1 rfl
  have hlb := hM1.look (t := 238) Try.underlying238 hwb W1 rfl
  have HB1 : Hid (Kz [131, 115] w0 W1 ∧ Below base w0 W1 ∧ ∀ g cs, g ≠ sA → Bk w0 g 115 cs → Bk W1 g 115 cs) := Lib.hid ⟨Kz.of_below hb1, hb1.mono hbase, fun g cs _ h => h.below hb1 h.lt⟩
  have HSZ : Hid (base ≤ W1.heap.size ∧ base ≤ ca) := Lib.hid ⟨Nat.le_trans hbase hb1.size, by rw [hca]; exact hbase⟩
  have HKN := Lib.hid hkn
  clear hrd hcl hj hM hS hO hM1 hb1 hbi hwa hwb
  go_upto_region 23 with fail
  rw [← hW1, ← hca]
  clear q0 q1 q2 q3 q4 q5 q6 q7 q8 q9 hW1 hca
  have i0 : W1.cell? ⟨ca, 0, none⟩ = some (.int .i64 ct.a) := HCA.out.cell 0
  have i1 : W1.cell? ⟨ca, 1, none⟩ = some (.int .i64 ct.b) := HCA.out.cell 1
  have i2 : W1.cell? ⟨ca, 2, none⟩ = some (.int .i64 ct.id) := HCA.out.cell 2
  have i3 : W1.cell? ⟨ca, 3, none⟩ = some (.int .i64 ct.px) := HCA.out.cell 3
  have i4 : W1.cell? ⟨ca, 4, none⟩ = some (.int .i64 ct.py) := HCA.out.cell 4
  have i5 : W1.cell? ⟨ca, 5, none⟩ = some (.int .i64 ct.nx) := HCA.out.cell 5
  have i6 : W1.cell? ⟨ca, 6, none⟩ = some (.int .i64 ct.ny) := HCA.out.cell 6
  have i7 : W1.cell? ⟨ca, 7, none⟩ = some (.int .i64 ct.dp) := HCA.out.cell 7
  have i8 : W1.cell? ⟨ca, 8, none⟩ = some (.int .i64 ct.ps) := HCA.out.cell 8
  have i9 : W1.cell? ⟨ca, 9, none⟩ = some (.int .i64 ct.sl) := HCA.out.cell 9
  obtain ⟨fa, hfa⟩ : ∃ z, z = f ct.a := ⟨_, rfl⟩
  obtain ⟨fb, hfb⟩ : ∃ z, z = f ct.b := ⟨_, rfl⟩
  rw [← hfa] at hla
  rw [← hfb] at hlb
  have HF : Hid (fa = f ct.a ∧ fb = f ct.b) := Lib.hid ⟨hfa, hfb⟩
  clear hfa hfb
  have hskip : fa = none ∨ fb = none → Hid (∃ w', w' = W1 ∧ (∃ kA' kn' kc', Bk w' sA 115 #[V0, .slice none 0 0, .slice kA' kn' kc', V1, V2, V3] ∧ w'.ownsRow base 131 10 (.slice kA' kn' kc') kn' (ctCs (D ++ ctF1 f ct)) ∧ kn' ≤ kn + 1) ∧ Kz [131, 115] w0 w' ∧ Below base w0 w' ∧ ∀ g cs, g ≠ sA → Bk w0 g 115 cs → Bk w' g 115 cs) := fun h => Lib.hid ⟨W1, rfl, ⟨kA, kn, kc, HS1.out, by
    have e : ctF1 f ct = [] := by
      unfold ctF1
      rw [← HF.out.1, ← HF.out.2]
      rcases h with rfl | rfl
      · rfl
      · cases fa <;> rfl
    rw [e, List.append_nil]
    exact HO1.out, by omega⟩, HB1.out⟩
  have HSK := Lib.hid hskip
  clear hskip
  rcases fa with _ | va
  · dsimp only [Option.getD, Option.isSome] at hla
    go_wp2_with fail
    (try simp only [Exit.inBlock, Exit.then])
    obtain ⟨w', e, hp⟩ := (HSK.out (by simp)).out
    subst e
    first
      | exact Lib.hid hp
      | exact hN _ _ _ _ _ _ _ _ _ _ _ _ _ _ _ _ _ _ _ _ _ _ _ _ _ _ _ _ _ _ _ _ _ _ _ _ (Lib.hid hp)
  · rcases fb with _ | vb
    · dsimp only [Option.getD, Option.isSome] at hla hlb
      go_wp2_with fail
      (try simp only [Exit.inBlock, Exit.then])
      obtain ⟨w', e, hp⟩ := (HSK.out (by simp)).out
      subst e
      first
      | exact Lib.hid hp
      | exact hN _ _ _ _ _ _ _ _ _ _ _ _ _ _ _ _ _ _ _ _ _ _ _ _ _ _ _ _ _ _ _ _ _ _ _ _ (Lib.hid hp)
    · dsimp only [Option.getD, Option.isSome] at hla hlb
      clear HSK
      have y0 := HCA.out.frozen 0
      have y1 := HCA.out.frozen 1
      obtain ⟨W2, hW2⟩ : ∃ z, z = (W1.setCell ⟨ca, 0, none⟩ (.int .i64 va)).setCell ⟨ca, 1, none⟩ (.int .i64 vb) := ⟨_, rfl⟩
      have HC2 : Hid (Bk W2 ca 131 #[.int .i64 va, .int .i64 vb, .int .i64 ct.id, .int .i64 ct.px, .int .i64 ct.py, .int .i64 ct.nx, .int .i64 ct.ny, .int .i64 ct.dp, .int .i64 ct.ps, .int .i64 ct.sl]) := Lib.hid (by rw [hW2]; simpa using (HCA.out.set_ 0 (.int .i64 va)).set_ 1 (.int .i64 vb))
      have HNS : Hid (ca ≠ sA) := Lib.hid (Bk.ne_ HCA.out HS1.out (by decide))
      have HO2 : Hid (W2.ownsRow base 131 10 (.slice kA kn kc) kn (ctCs D)) := Lib.hid (by rw [hW2]; exact own_farB (own_farB HO1.out HNE.out) HNE.out)
      have HZ2 : Hid (Kz [131, 115] W1 W2) := Lib.hid (by rw [hW2]; exact (Kz.refl.set HCA.out (by simp) 0 _).set (HCA.out.set_ 0 (.int .i64 va)) (by simp) 1 _)
      have HX2 : Hid (Kx 0 [131] W1 W2) := Lib.hid (by rw [hW2]; exact ((Kx.refl (B := 0)).set HCA.out (Nat.zero_le _) (by simp) 0 _).set (HCA.out.set_ 0 (.int .i64 va)) (Nat.zero_le _) (by simp) 1 _)
      have HS2 := Lib.hid (HX2.out.bk HS1.out (by decide))
      have HB2 : Hid (Below base W1 W2) := Lib.hid (by rw [hW2]; exact ((Below.refl _ _).setCell (p := ⟨ca, 0, none⟩) HSZ.out.2 _).setCell (p := ⟨ca, 1, none⟩) HSZ.out.2 _)
      go_upto_region 27 with fail
      rw [← hW2]
      clear hW2 i0 i1 i2 i3 i4 i5 i6 i7 i8 i9 y0 y1 hla hlb
      have j0 : W2.cell? ⟨ca, 0, none⟩ = some (.int .i64 va) := HC2.out.cell 0
      have j1 : W2.cell? ⟨ca, 1, none⟩ = some (.int .i64 vb) := HC2.out.cell 1
      have j2 : W2.cell? ⟨ca, 2, none⟩ = some (.int .i64 ct.id) := HC2.out.cell 2
      have j3 : W2.cell? ⟨ca, 3, none⟩ = some (.int .i64 ct.px) := HC2.out.cell 3
      have j4 : W2.cell? ⟨ca, 4, none⟩ = some (.int .i64 ct.py) := HC2.out.cell 4
      have j5 : W2.cell? ⟨ca, 5, none⟩ = some (.int .i64 ct.nx) := HC2.out.cell 5
      have j6 : W2.cell? ⟨ca, 6, none⟩ = some (.int .i64 ct.ny) := HC2.out.cell 6
      have j7 : W2.cell? ⟨ca, 7, none⟩ = some (.int .i64 ct.dp) := HC2.out.cell 7
      have j8 : W2.cell? ⟨ca, 8, none⟩ = some (.int .i64 ct.ps) := HC2.out.cell 8
      have j9 : W2.cell? ⟨ca, 9, none⟩ = some (.int .i64 ct.sl) := HC2.out.cell 9
      have s2 : W2.cell? ⟨sA, 2, none⟩ = some (.slice kA kn kc) := HS2.out.cell 2
      go_wp2_with
        (at_builtin
         go_must (refine wpList_append_one _ rfl (.tmp 113) (.tmp 115) 76 rfl base 131 iC (.agg #[.int .i64 0, .int .i64 0, .int .i64 0, .int .i64 0, .int .i64 0, .int .i64 0, .int .i64 0, .int .i64 0, .int .i64 0, .int .i64 0]) 10 80 Try.underlying76 hiC hC0 hC1 hC2 rfl (by decide) (.slice kA kn kc) kn (ctCs D) rfl (HO2.out.alloc _) W2.heap.size 1 131 #[.int .i64 va, .int .i64 vb, .int .i64 ct.id, .int .i64 ct.px, .int .i64 ct.py, .int .i64 ct.nx, .int .i64 ct.ny, .int .i64 ct.dp, .int .i64 ct.ps, .int .i64 ct.sl] rfl (Bk.new W2 _ _) rfl ?c1 (kn + 1) rfl ?c2 ?c3 ?c4 ?_)
         case c1 => simp [Value.oneCell']
         case c2 => unfold maxLen; omega
         case c3 => omega
         case c4 => (have h1 := HB2.out.size; have h2 := HSZ.out.1; simp; omega)
         intro g8 c8 w8 hown8 hg8 hat8
         have HZ8 : Hid (Kz [131] W2 w8) := Lib.hid ((Kz.refl.alloc _).grown (HO2.out.alloc _) hg8 (by simp))
         have HB8 : Hid (Below base W2 w8) := Lib.hid (((Below.refl _ _).alloc (Nat.le_trans HSZ.out.1 HB2.out.size) _).trans (grown_below (HO2.out.alloc _) hg8 (by have h1 := HB2.out.size; have h2 := HSZ.out.1; simp; omega)))
         have HO8 : Hid (w8.ownsRow base 131 10 (.slice (some ⟨g8, 0, none⟩) (kn + 1) c8) (kn + 1) (ctCs (D ++ ctF1 f ct))) := Lib.hid (by
           have e : ctF1 f ct = [{ ct with a := va, b := vb }] := by
             unfold ctF1
             rw [← HF.out.1, ← HF.out.2]
           rw [e, ctCs_app]
           exact hown8)
         have HK8 := Lib.hid (HZ8.out.kx.bk HS2.out (by decide))
         have s8 : w8.cell? ⟨sA, 2, none⟩ = some (.slice kA kn kc) := HK8.out.cell 2
         have t8 : w8.frozen? ⟨sA, 2, none⟩ = false := HK8.out.frozen 2
         clear hown8 hg8 hat8 s2 j0 j1 j2 j3 j4 j5 j6 j7 j8 j9)
      (try simp only [Exit.inBlock, Exit.then])
      have HR : Hid ((∃ kA' kn' kc', Bk (w8.setCell ⟨sA, 2, none⟩ (.slice (some ⟨g8, 0, none⟩) (kn + 1) c8)) sA 115 #[V0, .slice none 0 0, .slice kA' kn' kc', V1, V2, V3] ∧ (w8.setCell ⟨sA, 2, none⟩ (.slice (some ⟨g8, 0, none⟩) (kn + 1) c8)).ownsRow base 131 10 (.slice kA' kn' kc') kn' (ctCs (D ++ ctF1 f ct)) ∧ kn' ≤ kn + 1) ∧ Kz [131, 115] w0 (w8.setCell ⟨sA, 2, none⟩ (.slice (some ⟨g8, 0, none⟩) (kn + 1) c8)) ∧ Below base w0 (w8.setCell ⟨sA, 2, none⟩ (.slice (some ⟨g8, 0, none⟩) (kn + 1) c8)) ∧ ∀ g cs, g ≠ sA → Bk w0 g 115 cs → Bk (w8.setCell ⟨sA, 2, none⟩ (.slice (some ⟨g8, 0, none⟩) (kn + 1) c8)) g 115 cs) := Lib.hid (by
        refine ⟨⟨some ⟨g8, 0, none⟩, kn + 1, c8, by simpa using HK8.out.set_ 2 (.slice (some ⟨g8, 0, none⟩) (kn + 1) c8), ?_, by omega⟩, ?_, ?_, ?_⟩
        · exact ((Kx.refl (B := 0) (F := [115])).set HK8.out (Nat.zero_le _) (by simp) 2 _).own HO8.out (by decide)
        · exact ((HB1.out.1.trans HZ2.out).trans (HZ8.out.mono (by simp))).set HK8.out (by simp) 2 _
        · exact ((HB1.out.2.1.trans HB2.out).trans HB8.out).setCell (p := ⟨sA, 2, none⟩) hsA _
        · intro g cs hg h
          exact (HZ8.out.kx.bk (HX2.out.bk (HB1.out.2.2 g cs hg h) (by decide)) (by decide)).far (p := ⟨sA, 2, none⟩) hg _)
      first
        | exact HR
        | exact hN _ _ _ _ _ _ _ _ _ _ _ _ _ _ _ _ _ _ _ _ _ _ _ _ _ _ _ _ _ _ _ _ _ _ _ _ HR
/-! ### Ci -/
/-- A system whose operations are being made. -/
structure OpI (w wI : World) (B s hp hs hk : Nat) (SA : Option Addr) (sn sc : Nat) (xs : List Int) (kA : Option Addr) (kn kc : Nat) (ks : List Kd) (hx : Nat) (nm : ByteArray) (A1 : Option Addr) (n1 c1 : Nat) (A2 : Option Addr) (n2 c2 : Nat) (A3 : Option Addr) (n3 c3 : Nat) (A4 : Option Addr) (n4 c4 : Nat) (l4 : List Int) (OA : Option Addr) (on oc : Nat) (os : List Value) (PA : Option Addr) (pn pc : Nat) : Prop where
  arg : ArgI w B s hp hs hk SA sn sc xs kA kn kc ks
  bx : Bk w hx 307 #[.string nm, .slice A1 n1 c1, .slice A2 n2 c2, .slice A3 n3 c3, .slice A4 n4 c4, .slice OA on oc, .slice PA pn pc]
  w4 : RdY w 0 3 1 A4 n4 (l4.map (Value.int .i64))
  cap4 : n4 ≤ c4
  cap42 : c4 ≤ 9223372036854775807
  i4 : ∀ x ∈ l4, 0 ≤ x ∧ x < (kn : Int)
  few4 : n4 ≤ 1000
  ops : w.ownsRow wI.heap.size 344 11 (.slice OA on oc) on os
  fq : Fq [s] wI w
  lx : wI.heap.size ≤ hx
  sz : wI.heap.size ≤ w.heap.size
section
variable {w w' wI : World} {B s hp hs hk hx ho sn sc kn kc n1 c1 n2 c2 n3 c3 n4 c4 on oc pn pc : Nat} {SA kA A1 A2 A3 A4 OA PA : Option Addr} {xs l4 : List Int} {ks : List Kd} {nm : ByteArray} {os : List Value}
theorem OpI.next (h : OpI w wI B s hp hs hk SA sn sc xs kA kn kc ks hx nm A1 n1 c1 A2 n2 c2 A3 n3 c3 A4 n4 c4 l4 OA on oc os PA pn pc) (hst : StrSt w' B s) (hq : Fq [s] w w') : OpI w' wI B s hp hs hk SA sn sc xs kA kn kc ks hx nm A1 n1 c1 A2 n2 c2 A3 n3 c3 A4 n4 c4 l4 OA on oc os PA pn pc := by
  have hk := Kx.fq (B' := 0) hq h.arg.st (Nat.zero_le _)
  exact ⟨h.arg.fq hst hq, hk.bk h.bx (by decide), h.w4.keep hk (by decide), h.cap4, h.cap42, h.i4, h.few4, hk.own h.ops (by decide), h.fq.trans hq (SubF.refl _ _), h.lx, Nat.le_trans h.sz hq.size⟩
theorem OpI.drew_ (h : OpI w wI B s hp hs hk SA sn sc xs kA kn kc ks hx nm A1 n1 c1 A2 n2 c2 A3 n3 c3 A4 n4 c4 l4 OA on oc os PA pn pc) (hB : B ≤ s) : OpI w.drew wI B s hp hs hk SA sn sc xs kA kn kc ks hx nm A1 n1 c1 A2 n2 c2 A3 n3 c3 A4 n4 c4 l4 OA on oc os PA pn pc := h.next (h.arg.st.below (Below.refl _ _).drew (h.arg.st.lo hB)) Fq.refl.drew
end
section
variable {w w' wI : World} {B s hp hs hk hx ho sn sc kn kc n1 c1 n2 c2 n3 c3 n4 c4 on oc pn pc : Nat} {SA kA A1 A2 A3 A4 OA PA : Option Addr} {xs l4 : List Int} {ks : List Kd} {nm : ByteArray} {os : List Value}
/-- A store into the operation. -/
theorem OpI.op {cs : Array Value} (h : OpI w wI B s hp hs hk SA sn sc xs kA kn kc ks hx nm A1 n1 c1 A2 n2 c2 A3 n3 c3 A4 n4 c4 l4 OA on oc os PA pn pc) (hB : B ≤ s) (_ho : Bk w ho 344 cs) (_hoI : wI.heap.size ≤ ho) (hq : Kx B [344] w w') (hf : Fq [s] wI w') (hno : w'.ownsRow wI.heap.size 344 11 (.slice OA on oc) on os) : OpI w' wI B s hp hs hk SA sn sc xs kA kn kc ks hx nm A1 n1 c1 A2 n2 c2 A3 n3 c3 A4 n4 c4 l4 OA on oc os PA pn pc := by
  have hk := hq.mono (Nat.zero_le _) (fun _ h => h)
  exact ⟨⟨h.arg.st.kx hq (Nat.le_refl _) (h.arg.st.lo hB) (by decide), hk.bk h.arg.bp (by decide), hk.bk h.arg.bs (by decide), hk.bk h.arg.bk (by decide), h.arg.rd.keep hk (by decide), h.arg.cap, h.arg.cap2, h.arg.pos, h.arg.few, h.arg.inn, h.arg.kd.keep hk (by decide) (by decide), h.arg.fd⟩, hk.bk h.bx (by decide), h.w4.keep hk (by decide), h.cap4, h.cap42, h.i4, h.few4, hno, hf, h.lx, Nat.le_trans h.sz hq.size⟩
end
noncomputable def syR25 : Code := (Try.f198.body.bind (rgnN 25)).getD .skip
set_option maxHeartbeats 8000000 in
theorem sy25_any {x0 x1 x2 x5 x6 x8 x9 x12 x13 x14 x15 x16 x17 x18 x19 x20 x21 x22 x23 x24 x25 x26 x27 x28 x29 x30 x31 x32 x33 x34 x35 x36 x37 x38 x39 x40 x41 x42 x43 x44 x45 x46 x47 x48 x49 x50 x51 x52 x53 x54 x55 x56 x57 x58 x59 x60 x61 x62 x63 x64 x65 x66 x67 x68 x69 x70 x71 x72 x73 x74 x75 x76 x77 x78 x79 x80 x81 x82 x83 x84 x85 x86 x87 x88 x89 x90 x91 x92 x93 x94 x95 x96 x97 x98 x99 x100 x101 x102 x103 x104 x105 x106 x107 x108 x109 x110 x111 x112 x113 x114 x115 x116 x117 x118 x119 x120 x121 x122 x123 x124 x125 x126 x127 x128 x129 x130 x131 x132 x133 x134 x135 x136 x137 x138 x139 x140 x141 x142 x143 x144 x145 x146 x147 x148 x149 x150 x151 x152 x153 x154 x155 x156 x157 x158 x159 x160 x161 x162 x163 x164 x165 x166 x167 x168 x169 x170 x171 x172 x173 x174 x175 x176 x177 x178 x179 x180 x181 x182 x183 x184 x185 x186 : Value} {Q : Exit → Act → World → Prop} {wI w0 : World} {B s hp hs hk hx ho sn sc kn kc n1 c1 n2 c2 n3 c3 n4 c4 on oc pn pc : Nat} {SA kA A1 A2 A3 A4 OA PA : Option Addr} {xs l4 : List Int} {ks : List Kd} {nm : ByteArray} {os : List Value} {_d _t0 _t1 : Int} {_a0 : Bool} {_a1 _a2 _a3 : Int} {_b0 : Bool} {_b1 _b2 _b3 : Int}
    (hI : OpI w0 wI B s hp hs hk SA sn sc xs kA kn kc ks hx nm A1 n1 c1 A2 n2 c2 A3 n3 c3 A4 n4 c4 l4 OA on oc os PA pn pc) (hB : B ≤ s) (h4 : 0 < n4)
    (hN : ∀ (y130 y131 y132 y133 y134 y135 y136 y137 y138 : Value) (x : Nat) (w' : World), Hid (x < kn ∧ OpI w' wI B s hp hs hk SA sn sc xs kA kn kc ks hx nm A1 n1 c1 A2 n2 c2 A3 n3 c3 A4 n4 c4 l4 OA on oc os PA pn pc ∧ Fq [s] w0 w') → Q .normal ⟨#[x0, x1, x2, .pointer (some ⟨hk, 0, none⟩), .pointer (some ⟨hp, 0, none⟩), x5, x6, .pointer (some ⟨hx, 0, none⟩), x8, x9, .func (.func 237) #[] #[.pointer (some ⟨hp, 0, none⟩), .pointer (some ⟨hs, 0, none⟩), .pointer (some ⟨hk, 0, none⟩)], .pointer (some ⟨ho, 0, none⟩), .int .i64 (x : Int), x13, x14, x15, x16, x17, x18, x19, x20, x21, x22, x23, x24, x25, x26, x27, x28, x29, x30, x31, x32, x33, x34, x35, x36, x37, x38, x39, x40, x41, x42, x43, x44, x45, x46, x47, x48, x49, x50, x51, x52, x53, x54, x55, x56, x57, x58, x59, x60, x61, x62, x63, x64, x65, x66, x67, x68, x69, x70, x71, x72, x73, x74, x75, x76, x77, x78, x79, x80, x81, x82, x83, x84, x85, x86, x87, x88, x89, x90, x91, x92, x93, x94, x95, x96, x97, x98, x99, x100, x101, x102, x103, x104, x105, x106, x107, x108, x109, x110, x111, x112, x113, x114, x115, x116, x117, x118, x119, x120, x121, x122, x123, x124, x125, x126, x127, x128, x129, y130, y131, y132, y133, y134, y135, y136, y137, y138, x139, x140, x141, x142, x143, x144, x145, x146, x147, x148, x149, x150, x151, x152, x153, x154, x155, x156, x157, x158, x159, x160, x161, x162, x163, x164, x165, x166, x167, x168, x169, x170, x171, x172, x173, x174, x175, x176, x177, x178, x179, x180, x181, x182, x183, x184, x185, x186], []⟩ w') :
    Code.wp Try.prog syR25 Q ⟨#[x0, x1, x2, .pointer (some ⟨hk, 0, none⟩), .pointer (some ⟨hp, 0, none⟩), x5, x6, .pointer (some ⟨hx, 0, none⟩), x8, x9, .func (.func 237) #[] #[.pointer (some ⟨hp, 0, none⟩), .pointer (some ⟨hs, 0, none⟩), .pointer (some ⟨hk, 0, none⟩)], .pointer (some ⟨ho, 0, none⟩), x12, x13, x14, x15, x16, x17, x18, x19, x20, x21, x22, x23, x24, x25, x26, x27, x28, x29, x30, x31, x32, x33, x34, x35, x36, x37, x38, x39, x40, x41, x42, x43, x44, x45, x46, x47, x48, x49, x50, x51, x52, x53, x54, x55, x56, x57, x58, x59, x60, x61, x62, x63, x64, x65, x66, x67, x68, x69, x70, x71, x72, x73, x74, x75, x76, x77, x78, x79, x80, x81, x82, x83, x84, x85, x86, x87, x88, x89, x90, x91, x92, x93, x94, x95, x96, x97, x98, x99, x100, x101, x102, x103, x104, x105, x106, x107, x108, x109, x110, x111, x112, x113, x114, x115, x116, x117, x118, x119, x120, x121, x122, x123, x124, x125, x126, x127, x128, x129, x130, x131, x132, x133, x134, x135, x136, x137, x138, x139, x140, x141, x142, x143, x144, x145, x146, x147, x148, x149, x150, x151, x152, x153, x154, x155, x156, x157, x158, x159, x160, x161, x162, x163, x164, x165, x166, x167, x168, x169, x170, x171, x172, x173, x174, x175, x176, x177, x178, x179, x180, x181, x182, x183, x184, x185, x186], []⟩ w0 := by
  conv => arg 2; whnf
  have HNX := Lib.hid next_any
  obtain ⟨u1, hu1⟩ : ∃ z, z = w0.drew := ⟨_, rfl⟩
  have HC1 : Hid (OpI u1 wI B s hp hs hk SA sn sc xs kA kn kc ks hx nm A1 n1 c1 A2 n2 c2 A3 n3 c3 A4 n4 c4 l4 OA on oc os PA pn pc) := Lib.hid (by rw [hu1]; exact hI.drew_ hB)
  have HQ1 : Hid (Fq [s] w0 u1) := Lib.hid (by rw [hu1]; exact Fq.refl.drew)
  have hc4 := hI.cap4
  have hc42 := hI.cap42
  have hf4 := hI.few4
  have HS : Hid (∀ wz, OpI wz wI B s hp hs hk SA sn sc xs kA kn kc ks hx nm A1 n1 c1 A2 n2 c2 A3 n3 c3 A4 n4 c4 l4 OA on oc os PA pn pc → wz.cell? ⟨hp, 0, none⟩ = some (.pointer (some ⟨s, 0, none⟩)) ∧ wz.cell? ⟨hx, 4, none⟩ = some (.slice A4 n4 c4)) := Lib.hid fun wz h => ⟨h.arg.bp.cell 0, h.bx.cell 4⟩
  clear hI
  refine wp_region_noPanic ?_
  refine wp_region_H (S := fun wz => wz.cell? ⟨hp, 0, none⟩ = some (.pointer (some ⟨s, 0, none⟩)) ∧ wz.cell? ⟨hx, 4, none⟩ = some (.slice A4 n4 c4)) (by kernel_rfl) ?_
  rw [← hu1]
  clear hu1
  refine wpAnyH_val (i := 0) (v := .pointer (some ⟨hx, 4, none⟩)) (d := some 130) rfl rfl (by kernel_rfl) (by kernel_rfl) (by kernel_rfl) (fun _ _ _ h => h) (Or.inl ⟨by rfl, fun w hS => by (obtain ⟨h0, h1⟩ := hS; go_simp)⟩) (HS.out _ HC1.out) ?_
  (try simp only [Act.put, List.setIfInBounds_toArray, List.set_cons_zero, List.set_cons_succ])
  refine wpAnyH_val (i := 1) (v := .slice A4 n4 c4) (d := some 131) rfl rfl (by kernel_rfl) (by kernel_rfl) (by kernel_rfl) (fun _ _ _ h => h) (Or.inl ⟨by rfl, fun w hS => by (obtain ⟨h0, h1⟩ := hS; go_simp)⟩) (HS.out _ HC1.out) ?_
  (try simp only [Act.put, List.setIfInBounds_toArray, List.set_cons_zero, List.set_cons_succ])
  refine wpAnyH_val (i := 2) (v := .pointer (some ⟨s, 0, none⟩)) (d := some 132) rfl rfl (by kernel_rfl) (by kernel_rfl) (by kernel_rfl) (fun _ _ _ h => h) (Or.inl ⟨by rfl, fun w hS => by (obtain ⟨h0, h1⟩ := hS; go_simp)⟩) (HS.out _ HC1.out) ?_
  (try simp only [Act.put, List.setIfInBounds_toArray, List.set_cons_zero, List.set_cons_succ])
  refine wpAnyH_val (i := 3) (v := .pointer (some ⟨hx, 4, none⟩)) (d := some 133) rfl rfl (by kernel_rfl) (by kernel_rfl) (by kernel_rfl) (fun _ _ _ h => h) (Or.inl ⟨by rfl, fun w hS => by (obtain ⟨h0, h1⟩ := hS; go_simp)⟩) (HS.out _ HC1.out) ?_
  (try simp only [Act.put, List.setIfInBounds_toArray, List.set_cons_zero, List.set_cons_succ])
  refine wpAnyH_val (i := 4) (v := .slice A4 n4 c4) (d := some 134) rfl rfl (by kernel_rfl) (by kernel_rfl) (by kernel_rfl) (fun _ _ _ h => h) (Or.inl ⟨by rfl, fun w hS => by (obtain ⟨h0, h1⟩ := hS; go_simp)⟩) (HS.out _ HC1.out) ?_
  (try simp only [Act.put, List.setIfInBounds_toArray, List.set_cons_zero, List.set_cons_succ])
  refine wpAnyH_val (i := 5) (v := .int .i64 (n4 : Int)) (d := some 135) rfl rfl (by kernel_rfl) (by kernel_rfl) (by kernel_rfl) (fun _ _ _ h => h) (Or.inl ⟨by rfl, fun w hS => by (obtain ⟨h0, h1⟩ := hS; go_simp)⟩) (HS.out _ HC1.out) ?_
  (try simp only [Act.put, List.setIfInBounds_toArray, List.set_cons_zero, List.set_cons_succ])
  refine wpAnyH_oneW (i := 6) rfl (by kernel_rfl) (by rfl) ?_
  go_simp
  go_at_call 98
  (with_reducible refine (HNX.out s B n4 _ HC1.out.arg.st hB (by omega) (by omega)).mono ?_)
  rintro e u2 ⟨p, rfl, hp0, hp1, hst2, hg2⟩
  obtain ⟨p, rfl⟩ : ∃ N : Nat, p = N := ⟨p.toNat, by omega⟩
  have HQ2 : Hid (Fq [s] u1 u2) := Lib.hid (Fq.refl.grown hg2 fun g hg => .inl (by injection hg with hg; simp [hg]))
  have HC2 : Hid (OpI u2 wI B s hp hs hk SA sn sc xs kA kn kc ks hx nm A1 n1 c1 A2 n2 c2 A3 n3 c3 A4 n4 c4 l4 OA on oc os PA pn pc) := Lib.hid (HC1.out.next hst2 HQ2.out)
  clear hst2 hg2
  refine And.intro (HS.out _ HC2.out) ?_
  (try simp only [Act.put, List.setIfInBounds_toArray, List.set_cons_zero, List.set_cons_succ])
  have hpn : p < n4 := by omega
  obtain ⟨x, hx_⟩ : ∃ x, l4[p]? = some x := ⟨_, List.getElem?_eq_getElem (by have := HC2.out.w4.1; simp at this; omega)⟩
  obtain ⟨sb, so, rfl, hsb, hsc⟩ := HC2.out.w4.rd.at1 hpn (u := .int .i64 x) (by rw [List.getElem?_map, hx_]; rfl)
  have hxin := HC2.out.i4 x (List.mem_of_getElem? hx_)
  obtain ⟨x, rfl⟩ : ∃ N : Nat, x = N := ⟨x.toNat, by omega⟩
  have hsc2 : u2.cell? ⟨sb, so + p, none⟩ = some (.int .i64 x) := hsc
  clear hx_ hsb hsc
  refine wpAnyH_oneW (i := 7) rfl (by kernel_rfl) (by rfl) ?_
  go_simp
  refine And.intro (HS.out _ HC2.out) ?_
  (try simp only [Act.put, List.setIfInBounds_toArray, List.set_cons_zero, List.set_cons_succ])
  refine wpAnyH_oneW (i := 8) rfl (by kernel_rfl) (by rfl) ?_
  go_simp
  refine And.intro (HS.out _ HC2.out) ?_
  (try simp only [Act.put, List.setIfInBounds_toArray, List.set_cons_zero, List.set_cons_succ])
  refine wpAnyH_oneW (i := 9) rfl (by kernel_rfl) (by rfl) ?_
  go_simp
  refine And.intro (HS.out _ HC2.out) ?_
  (try simp only [Act.put, List.setIfInBounds_toArray, List.set_cons_zero, List.set_cons_succ])
  refine wpAnyH_done (by kernel_rfl) ?_ _
  refine NoPanic.normal ?_
  exact hN _ _ _ _ _ _ _ _ _ x _ (Lib.hid ⟨by omega, HC2.out, HQ1.out.trans HQ2.out (SubF.refl _ _)⟩)
noncomputable def syR26 : Code := (Try.f198.body.bind (rgnN 26)).getD .skip
set_option maxHeartbeats 8000000 in
theorem sy26_any {x0 x1 x2 x5 x6 x8 x9 x13 x14 x15 x16 x17 x18 x19 x20 x21 x22 x23 x24 x25 x26 x27 x28 x29 x30 x31 x32 x33 x34 x35 x36 x37 x38 x39 x40 x41 x42 x43 x44 x45 x46 x47 x48 x49 x50 x51 x52 x53 x54 x55 x56 x57 x58 x59 x60 x61 x62 x63 x64 x65 x66 x67 x68 x69 x70 x71 x72 x73 x74 x75 x76 x77 x78 x79 x80 x81 x82 x83 x84 x85 x86 x87 x88 x89 x90 x91 x92 x93 x94 x95 x96 x97 x98 x99 x100 x101 x102 x103 x104 x105 x106 x107 x108 x109 x110 x111 x112 x113 x114 x115 x116 x117 x118 x119 x120 x121 x122 x123 x124 x125 x126 x127 x128 x129 x130 x131 x132 x133 x134 x135 x136 x137 x138 x139 x140 x141 x142 x143 x144 x145 x146 x147 x148 x149 x150 x151 x152 x153 x154 x155 x156 x157 x158 x159 x160 x161 x162 x163 x164 x165 x166 x167 x168 x169 x170 x171 x172 x173 x174 x175 x176 x177 x178 x179 x180 x181 x182 x183 x184 x185 x186 : Value} {Q : Exit → Act → World → Prop} {wI w0 : World} {B s hp hs hk hx ho sn sc kn kc n1 c1 n2 c2 n3 c3 n4 c4 on oc pn pc : Nat} {SA kA A1 A2 A3 A4 OA PA : Option Addr} {xs l4 : List Int} {ks : List Kd} {nm : ByteArray} {os : List Value} {d t0 t1 : Int} {a0 : Bool} {a1 a2 a3 : Int} {b0 : Bool} {b1 b2 b3 : Int}
    (hI : OpI w0 wI B s hp hs hk SA sn sc xs kA kn kc ks hx nm A1 n1 c1 A2 n2 c2 A3 n3 c3 A4 n4 c4 l4 OA on oc os PA pn pc) (hB : B ≤ s) {x : Nat} (hx_ : x < kn) (ho_ : Bk w0 ho 344 #[.int .i64 d, .int .i64 t0, .int .i64 t1, .bool a0, .int .i64 a1, .int .i64 a2, .int .i64 a3, .bool b0, .int .i64 b1, .int .i64 b2, .int .i64 b3]) (hoI : wI.heap.size ≤ ho) (hBI : B ≤ wI.heap.size) (hno : (Value.slice OA on oc).ownBlock ≠ some ho)
    (hN : ∀ (y139 y140 y141 y142 y143 y144 y145 y146 y147 y148 y149 : Value) (u0 u1 : Int) (w' : World), Hid (OpI w' wI B s hp hs hk SA sn sc xs kA kn kc ks hx nm A1 n1 c1 A2 n2 c2 A3 n3 c3 A4 n4 c4 l4 OA on oc os PA pn pc ∧ Bk w' ho 344 #[.int .i64 d, .int .i64 u0, .int .i64 u1, .bool a0, .int .i64 a1, .int .i64 a2, .int .i64 a3, .bool b0, .int .i64 b1, .int .i64 b2, .int .i64 b3] ∧ Fq [s] wI w') → Q .normal ⟨#[x0, x1, x2, .pointer (some ⟨hk, 0, none⟩), .pointer (some ⟨hp, 0, none⟩), x5, x6, .pointer (some ⟨hx, 0, none⟩), x8, x9, .func (.func 237) #[] #[.pointer (some ⟨hp, 0, none⟩), .pointer (some ⟨hs, 0, none⟩), .pointer (some ⟨hk, 0, none⟩)], .pointer (some ⟨ho, 0, none⟩), .int .i64 (x : Int), x13, x14, x15, x16, x17, x18, x19, x20, x21, x22, x23, x24, x25, x26, x27, x28, x29, x30, x31, x32, x33, x34, x35, x36, x37, x38, x39, x40, x41, x42, x43, x44, x45, x46, x47, x48, x49, x50, x51, x52, x53, x54, x55, x56, x57, x58, x59, x60, x61, x62, x63, x64, x65, x66, x67, x68, x69, x70, x71, x72, x73, x74, x75, x76, x77, x78, x79, x80, x81, x82, x83, x84, x85, x86, x87, x88, x89, x90, x91, x92, x93, x94, x95, x96, x97, x98, x99, x100, x101, x102, x103, x104, x105, x106, x107, x108, x109, x110, x111, x112, x113, x114, x115, x116, x117, x118, x119, x120, x121, x122, x123, x124, x125, x126, x127, x128, x129, x130, x131, x132, x133, x134, x135, x136, x137, x138, y139, y140, y141, y142, y143, y144, y145, y146, y147, y148, y149, x150, x151, x152, x153, x154, x155, x156, x157, x158, x159, x160, x161, x162, x163, x164, x165, x166, x167, x168, x169, x170, x171, x172, x173, x174, x175, x176, x177, x178, x179, x180, x181, x182, x183, x184, x185, x186], []⟩ w') :
    Code.wp Try.prog syR26 Q ⟨#[x0, x1, x2, .pointer (some ⟨hk, 0, none⟩), .pointer (some ⟨hp, 0, none⟩), x5, x6, .pointer (some ⟨hx, 0, none⟩), x8, x9, .func (.func 237) #[] #[.pointer (some ⟨hp, 0, none⟩), .pointer (some ⟨hs, 0, none⟩), .pointer (some ⟨hk, 0, none⟩)], .pointer (some ⟨ho, 0, none⟩), .int .i64 (x : Int), x13, x14, x15, x16, x17, x18, x19, x20, x21, x22, x23, x24, x25, x26, x27, x28, x29, x30, x31, x32, x33, x34, x35, x36, x37, x38, x39, x40, x41, x42, x43, x44, x45, x46, x47, x48, x49, x50, x51, x52, x53, x54, x55, x56, x57, x58, x59, x60, x61, x62, x63, x64, x65, x66, x67, x68, x69, x70, x71, x72, x73, x74, x75, x76, x77, x78, x79, x80, x81, x82, x83, x84, x85, x86, x87, x88, x89, x90, x91, x92, x93, x94, x95, x96, x97, x98, x99, x100, x101, x102, x103, x104, x105, x106, x107, x108, x109, x110, x111, x112, x113, x114, x115, x116, x117, x118, x119, x120, x121, x122, x123, x124, x125, x126, x127, x128, x129, x130, x131, x132, x133, x134, x135, x136, x137, x138, x139, x140, x141, x142, x143, x144, x145, x146, x147, x148, x149, x150, x151, x152, x153, x154, x155, x156, x157, x158, x159, x160, x161, x162, x163, x164, x165, x166, x167, x168, x169, x170, x171, x172, x173, x174, x175, x176, x177, x178, x179, x180, x181, x182, x183, x184, x185, x186], []⟩ w0 := by
  conv => arg 2; whnf
  have HNX := Lib.hid next_any
  have HI := Lib.hid hI
  obtain ⟨k, hk_⟩ : ∃ k, ks[x]? = some k := ⟨_, List.getElem?_eq_getElem (by have := hI.arg.kd.len; omega)⟩
  obtain ⟨kb, ko, rfl, hkbl, q0, q1⟩ := hI.arg.kd.rd.rd.kd hx_ hk_
  have hkf := hI.arg.fd k (List.mem_of_getElem? hk_)
  have hkko := hI.arg.kd.ok k (List.mem_of_getElem? hk_)
  have hkc1 := hkko.cap
  have hkc2 := hkko.cap2
  have hkn1 := hI.arg.kd.cap
  have hkn2 := hI.arg.kd.cap2
  have hxz : (x : Int) < kn := by omega
  have hxz0 : (0 : Int) ≤ x := by omega
  have HKV : Hid (∀ wz, OpI wz wI B s hp hs hk SA sn sc xs (some ⟨kb, ko, none⟩) kn kc ks hx nm A1 n1 c1 A2 n2 c2 A3 n3 c3 A4 n4 c4 l4 OA on oc os PA pn pc → wz.cell? ⟨hp, 0, none⟩ = some (.pointer (some ⟨s, 0, none⟩)) ∧ wz.cell? ⟨hk, 0, none⟩ = some (.slice (some ⟨kb, ko, none⟩) kn kc) ∧ wz.cell? ⟨kb, ko + x * 2 + 1, none⟩ = some (.slice k.A k.n k.c)) := Lib.hid fun wz h => by
    obtain ⟨b', o', hA, _, _, q1'⟩ := h.arg.kd.rd.rd.kd hx_ hk_
    injection hA with hA
    injection hA with h1 h2
    subst h1; subst h2
    exact ⟨h.arg.bp.cell 0, h.arg.bk.cell 0, q1'⟩
  clear hk_ hkko hkbl q0 q1 hI
  generalize k.A = fA at *
  generalize k.n = fn at *
  generalize k.c = fc at *
  have hosn : ho ≠ s := by
    obtain ⟨cs, h1⟩ := HI.out.arg.st.bk
    exact ho_.ne_ h1 (by decide)
  obtain ⟨u3, hu3⟩ : ∃ z, z = w0.drew := ⟨_, rfl⟩
  have HC3 : Hid (OpI u3 wI B s hp hs hk SA sn sc xs (some ⟨kb, ko, none⟩) kn kc ks hx nm A1 n1 c1 A2 n2 c2 A3 n3 c3 A4 n4 c4 l4 OA on oc os PA pn pc) := Lib.hid (by rw [hu3]; exact HI.out.drew_ hB)
  have HO3 : Hid (Bk u3 ho 344 #[.int .i64 d, .int .i64 t0, .int .i64 t1, .bool a0, .int .i64 a1, .int .i64 a2, .int .i64 a3, .bool b0, .int .i64 b1, .int .i64 b2, .int .i64 b3]) := Lib.hid (by rw [hu3]; exact ho_.drew)
  have HBO : Hid (B ≤ ho) := Lib.hid (Nat.le_trans hBI hoI)
  clear HI ho_
  refine wp_region_noPanic ?_
  refine wp_region_L (late := [11]) (S := fun wz => wz.cell? ⟨hp, 0, none⟩ = some (.pointer (some ⟨s, 0, none⟩)) ∧ wz.cell? ⟨hk, 0, none⟩ = some (.slice (some ⟨kb, ko, none⟩) kn kc) ∧ wz.cell? ⟨kb, ko + x * 2 + 1, none⟩ = some (.slice fA fn fc)) (by kernel_rfl) ?_
  rw [← hu3]
  clear hu3
  refine wpAnyL_val (i := 0) (v := .int .i64 (x : Int)) (d := some 139) rfl rfl (by kernel_rfl) (by kernel_rfl) (by kernel_rfl) (by kernel_rfl) (fun _ _ _ h => h) (Or.inl ⟨by rfl, fun w hS => by (obtain ⟨h0, h1, h2⟩ := hS; go_simp)⟩) (HKV.out _ HC3.out) ?_
  (try simp only [Act.put, List.setIfInBounds_toArray, List.set_cons_zero, List.set_cons_succ])
  refine wpAnyL_val (i := 1) (v := .pointer (some ⟨s, 0, none⟩)) (d := some 140) rfl rfl (by kernel_rfl) (by kernel_rfl) (by kernel_rfl) (by kernel_rfl) (fun _ _ _ h => h) (Or.inl ⟨by rfl, fun w hS => by (obtain ⟨h0, h1, h2⟩ := hS; go_simp)⟩) (HKV.out _ HC3.out) ?_
  (try simp only [Act.put, List.setIfInBounds_toArray, List.set_cons_zero, List.set_cons_succ])
  refine wpAnyL_val (i := 2) (v := .slice (some ⟨kb, ko, none⟩) kn kc) (d := some 141) rfl rfl (by kernel_rfl) (by kernel_rfl) (by kernel_rfl) (by kernel_rfl) (fun _ _ _ h => h) (Or.inl ⟨by rfl, fun w hS => by (obtain ⟨h0, h1, h2⟩ := hS; go_simp)⟩) (HKV.out _ HC3.out) ?_
  (try simp only [Act.put, List.setIfInBounds_toArray, List.set_cons_zero, List.set_cons_succ])
  refine wpAnyL_val (i := 3) (v := .int .i64 (x : Int)) (d := some 142) rfl rfl (by kernel_rfl) (by kernel_rfl) (by kernel_rfl) (by kernel_rfl) (fun _ _ _ h => h) (Or.inl ⟨by rfl, fun w hS => by (obtain ⟨h0, h1, h2⟩ := hS; go_simp)⟩) (HKV.out _ HC3.out) ?_
  (try simp only [Act.put, List.setIfInBounds_toArray, List.set_cons_zero, List.set_cons_succ])
  refine wpAnyL_val (i := 4) (v := .pointer (some ⟨kb, ko + x * 2, none⟩)) (d := some 143) rfl rfl (by kernel_rfl) (by kernel_rfl) (by kernel_rfl) (by kernel_rfl) (fun _ _ _ h => h) (Or.inl ⟨by rfl, fun w hS => by (obtain ⟨h0, h1, h2⟩ := hS; go_simp)⟩) (HKV.out _ HC3.out) ?_
  (try simp only [Act.put, List.setIfInBounds_toArray, List.set_cons_zero, List.set_cons_succ])
  refine wpAnyL_val (i := 5) (v := .pointer (some ⟨kb, ko + x * 2 + 1, none⟩)) (d := some 144) rfl rfl (by kernel_rfl) (by kernel_rfl) (by kernel_rfl) (by kernel_rfl) (fun _ _ _ h => h) (Or.inl ⟨by rfl, fun w hS => by (obtain ⟨h0, h1, h2⟩ := hS; go_simp)⟩) (HKV.out _ HC3.out) ?_
  (try simp only [Act.put, List.setIfInBounds_toArray, List.set_cons_zero, List.set_cons_succ])
  refine wpAnyL_val (i := 6) (v := .slice fA fn fc) (d := some 145) rfl rfl (by kernel_rfl) (by kernel_rfl) (by kernel_rfl) (by kernel_rfl) (fun _ _ _ h => h) (Or.inl ⟨by rfl, fun w hS => by (obtain ⟨h0, h1, h2⟩ := hS; go_simp)⟩) (HKV.out _ HC3.out) ?_
  (try simp only [Act.put, List.setIfInBounds_toArray, List.set_cons_zero, List.set_cons_succ])
  refine wpAnyL_val (i := 7) (v := .int .i64 (fn : Int)) (d := some 146) rfl rfl (by kernel_rfl) (by kernel_rfl) (by kernel_rfl) (by kernel_rfl) (fun _ _ _ h => h) (Or.inl ⟨by rfl, fun w hS => by (obtain ⟨h0, h1, h2⟩ := hS; go_simp)⟩) (HKV.out _ HC3.out) ?_
  (try simp only [Act.put, List.setIfInBounds_toArray, List.set_cons_zero, List.set_cons_succ])
  refine wpAnyL_one (i := 8) rfl (by kernel_rfl) (by rfl) ?_
  go_simp
  go_at_call 98
  (with_reducible refine (HNX.out s B fn _ HC3.out.arg.st hB (by omega) (by omega)).mono ?_)
  rintro e u4 ⟨y, rfl, hy0, hy1, hst4, hg4⟩
  have HQ4 : Hid (Fq [s] u3 u4) := Lib.hid (Fq.refl.grown hg4 fun g hg => .inl (by injection hg with hg; simp [hg]))
  have HC4 : Hid (OpI u4 wI B s hp hs hk SA sn sc xs (some ⟨kb, ko, none⟩) kn kc ks hx nm A1 n1 c1 A2 n2 c2 A3 n3 c3 A4 n4 c4 l4 OA on oc os PA pn pc) := Lib.hid (HC3.out.next hst4 HQ4.out)
  have hO4 : Bk u4 ho 344 #[.int .i64 d, .int .i64 t0, .int .i64 t1, .bool a0, .int .i64 a1, .int .i64 a2, .int .i64 a3, .bool b0, .int .i64 b1, .int .i64 b2, .int .i64 b3] := HO3.out.grown hg4 (fun e => by injection e with e; omega)
  clear hst4 hg4
  refine And.intro (HKV.out _ HC4.out) ?_
  (try simp only [Act.put, List.setIfInBounds_toArray, List.set_cons_zero, List.set_cons_succ])
  refine wpAnyL_val (i := 9) (v := .agg #[.int .i64 (x : Int), .int .i64 y]) (d := some 148) rfl rfl (by kernel_rfl) (by kernel_rfl) (by kernel_rfl) (by kernel_rfl) (fun _ _ _ h => h) (Or.inl ⟨by rfl, fun w hS => by (obtain ⟨h0, h1, h2⟩ := hS; go_simp)⟩) (HKV.out _ HC4.out) ?_
  (try simp only [Act.put, List.setIfInBounds_toArray, List.set_cons_zero, List.set_cons_succ])
  refine wpAnyL_val (i := 10) (v := .pointer (some ⟨ho, 1, none⟩)) (d := some 149) rfl rfl (by kernel_rfl) (by kernel_rfl) (by kernel_rfl) (by kernel_rfl) (fun _ _ _ h => h) (Or.inl ⟨by rfl, fun w hS => by (obtain ⟨h0, h1, h2⟩ := hS; go_simp)⟩) (HKV.out _ HC4.out) ?_
  (try simp only [Act.put, List.setIfInBounds_toArray, List.set_cons_zero, List.set_cons_succ])
  have z1 : u4.cell? ⟨ho, 1, none⟩ = some (.int .i64 t0) := hO4.cell 1
  have z2 : u4.cell? ⟨ho, 2, none⟩ = some (.int .i64 t1) := hO4.cell 2
  have y1 := hO4.frozen 1
  have y2 := hO4.frozen 2
  have HF : Hid (OpI ((u4.setCell ⟨ho, 1, none⟩ (.int .i64 (x : Int))).setCell ⟨ho, 2, none⟩ (.int .i64 y)) wI B s hp hs hk SA sn sc xs (some ⟨kb, ko, none⟩) kn kc ks hx nm A1 n1 c1 A2 n2 c2 A3 n3 c3 A4 n4 c4 l4 OA on oc os PA pn pc ∧ Bk ((u4.setCell ⟨ho, 1, none⟩ (.int .i64 (x : Int))).setCell ⟨ho, 2, none⟩ (.int .i64 y)) ho 344 #[.int .i64 d, .int .i64 (x : Int), .int .i64 y, .bool a0, .int .i64 a1, .int .i64 a2, .int .i64 a3, .bool b0, .int .i64 b1, .int .i64 b2, .int .i64 b3] ∧ Fq [s] wI ((u4.setCell ⟨ho, 1, none⟩ (.int .i64 (x : Int))).setCell ⟨ho, 2, none⟩ (.int .i64 y))) := Lib.hid (by
    have h := HC4.out.op hB hO4 hoI ((Kx.refl.set hO4 HBO.out (by simp) 1 (.int .i64 (x : Int))).set (hO4.set_ 1 _) HBO.out (by simp) 2 (.int .i64 y)) ((HC4.out.fq.set (.inr hoI) 1 _).set (.inr hoI) 2 _) (own_farB (own_farB HC4.out.ops hno) hno)
    exact ⟨h, by simpa using (hO4.set_ 1 (.int .i64 (x : Int))).set_ 2 (.int .i64 y), h.fq⟩)
  clear hO4
  refine wpAnyL_late (i := 11) rfl (by kernel_rfl) (by rfl) (by kernel_rfl) ?_
  go_simp
  (try simp only [Act.put, List.setIfInBounds_toArray, List.set_cons_zero, List.set_cons_succ])
  refine wpAnyL_done (by kernel_rfl) ?_ _
  refine NoPanic.normal ?_
  exact hN _ _ _ _ _ _ _ _ _ _ _ _ _ _ HF
noncomputable def syR23 : Code := (Try.f198.body.bind (rgnN 23)).getD .skip
set_option maxHeartbeats 8000000 in
theorem sy23_any {x0 x1 x2 x5 x6 x8 x9 x12 x13 x14 x15 x16 x17 x18 x19 x20 x21 x22 x23 x24 x25 x26 x27 x28 x29 x30 x31 x32 x33 x34 x35 x36 x37 x38 x39 x40 x41 x42 x43 x44 x45 x46 x47 x48 x49 x50 x51 x52 x53 x54 x55 x56 x57 x58 x59 x60 x61 x62 x63 x64 x65 x66 x67 x68 x69 x70 x71 x72 x73 x74 x75 x76 x77 x78 x79 x80 x81 x82 x83 x84 x85 x86 x87 x88 x89 x90 x91 x92 x93 x94 x95 x96 x97 x98 x99 x100 x101 x102 x103 x104 x105 x106 x107 x108 x109 x110 x111 x112 x113 x114 x115 x116 x117 x118 x119 x120 x121 x122 x123 x124 x125 x126 x127 x128 x129 x130 x131 x132 x133 x134 x135 x136 x137 x138 x139 x140 x141 x142 x143 x144 x145 x146 x147 x148 x149 x150 x151 x152 x153 x154 x155 x156 x157 x158 x159 x160 x161 x162 x163 x164 x165 x166 x167 x168 x169 x170 x171 x172 x173 x174 x175 x176 x177 x178 x179 x180 x181 x182 x183 x184 x185 x186 : Value} {Q : Exit → Act → World → Prop} {wI w0 : World} {B s hp hs hk hx ho sn sc kn kc n1 c1 n2 c2 n3 c3 n4 c4 on oc pn pc : Nat} {SA kA A1 A2 A3 A4 OA PA : Option Addr} {xs l4 : List Int} {ks : List Kd} {nm : ByteArray} {os : List Value} {d t0 t1 : Int} {a0 : Bool} {a1 a2 a3 : Int} {b0 : Bool} {b1 b2 b3 : Int}
    (hI : OpI w0 wI B s hp hs hk SA sn sc xs kA kn kc ks hx nm A1 n1 c1 A2 n2 c2 A3 n3 c3 A4 n4 c4 l4 OA on oc os PA pn pc) (hB : B ≤ s) (ho_ : Bk w0 ho 344 #[.int .i64 d, .int .i64 t0, .int .i64 t1, .bool a0, .int .i64 a1, .int .i64 a2, .int .i64 a3, .bool b0, .int .i64 b1, .int .i64 b2, .int .i64 b3]) (hoI : wI.heap.size ≤ ho) (hBI : B ≤ wI.heap.size) (hno : (Value.slice OA on oc).ownBlock ≠ some ho)
    (hN : ∀ (y121 y122 y123 y124 y125 : Value) (e0 : Bool) (e1 e2 e3 : Int) (w' : World), Hid (OpI w' wI B s hp hs hk SA sn sc xs kA kn kc ks hx nm A1 n1 c1 A2 n2 c2 A3 n3 c3 A4 n4 c4 l4 OA on oc os PA pn pc ∧ Bk w' ho 344 #[.int .i64 12, .int .i64 0, .int .i64 0, .bool a0, .int .i64 a1, .int .i64 a2, .int .i64 a3, .bool e0, .int .i64 e1, .int .i64 e2, .int .i64 e3] ∧ Fq [s] wI w') → Q .normal ⟨#[x0, x1, x2, .pointer (some ⟨hk, 0, none⟩), .pointer (some ⟨hp, 0, none⟩), x5, x6, .pointer (some ⟨hx, 0, none⟩), x8, x9, .func (.func 237) #[] #[.pointer (some ⟨hp, 0, none⟩), .pointer (some ⟨hs, 0, none⟩), .pointer (some ⟨hk, 0, none⟩)], .pointer (some ⟨ho, 0, none⟩), x12, x13, x14, x15, x16, x17, x18, x19, x20, x21, x22, x23, x24, x25, x26, x27, x28, x29, x30, x31, x32, x33, x34, x35, x36, x37, x38, x39, x40, x41, x42, x43, x44, x45, x46, x47, x48, x49, x50, x51, x52, x53, x54, x55, x56, x57, x58, x59, x60, x61, x62, x63, x64, x65, x66, x67, x68, x69, x70, x71, x72, x73, x74, x75, x76, x77, x78, x79, x80, x81, x82, x83, x84, x85, x86, x87, x88, x89, x90, x91, x92, x93, x94, x95, x96, x97, x98, x99, x100, x101, x102, x103, x104, x105, x106, x107, x108, x109, x110, x111, x112, x113, x114, x115, x116, x117, x118, x119, x120, y121, y122, y123, y124, y125, x126, x127, x128, x129, x130, x131, x132, x133, x134, x135, x136, x137, x138, x139, x140, x141, x142, x143, x144, x145, x146, x147, x148, x149, x150, x151, x152, x153, x154, x155, x156, x157, x158, x159, x160, x161, x162, x163, x164, x165, x166, x167, x168, x169, x170, x171, x172, x173, x174, x175, x176, x177, x178, x179, x180, x181, x182, x183, x184, x185, x186], []⟩ w') :
    Code.wp Try.prog syR23 Q ⟨#[x0, x1, x2, .pointer (some ⟨hk, 0, none⟩), .pointer (some ⟨hp, 0, none⟩), x5, x6, .pointer (some ⟨hx, 0, none⟩), x8, x9, .func (.func 237) #[] #[.pointer (some ⟨hp, 0, none⟩), .pointer (some ⟨hs, 0, none⟩), .pointer (some ⟨hk, 0, none⟩)], .pointer (some ⟨ho, 0, none⟩), x12, x13, x14, x15, x16, x17, x18, x19, x20, x21, x22, x23, x24, x25, x26, x27, x28, x29, x30, x31, x32, x33, x34, x35, x36, x37, x38, x39, x40, x41, x42, x43, x44, x45, x46, x47, x48, x49, x50, x51, x52, x53, x54, x55, x56, x57, x58, x59, x60, x61, x62, x63, x64, x65, x66, x67, x68, x69, x70, x71, x72, x73, x74, x75, x76, x77, x78, x79, x80, x81, x82, x83, x84, x85, x86, x87, x88, x89, x90, x91, x92, x93, x94, x95, x96, x97, x98, x99, x100, x101, x102, x103, x104, x105, x106, x107, x108, x109, x110, x111, x112, x113, x114, x115, x116, x117, x118, x119, x120, x121, x122, x123, x124, x125, x126, x127, x128, x129, x130, x131, x132, x133, x134, x135, x136, x137, x138, x139, x140, x141, x142, x143, x144, x145, x146, x147, x148, x149, x150, x151, x152, x153, x154, x155, x156, x157, x158, x159, x160, x161, x162, x163, x164, x165, x166, x167, x168, x169, x170, x171, x172, x173, x174, x175, x176, x177, x178, x179, x180, x181, x182, x183, x184, x185, x186], []⟩ w0 := by
  conv => arg 2; whnf
  have HI := Lib.hid hI
  have HS : Hid (∀ wz, Bk wz ho 344 #[.int .i64 d, .int .i64 t0, .int .i64 t1, .bool a0, .int .i64 a1, .int .i64 a2, .int .i64 a3, .bool b0, .int .i64 b1, .int .i64 b2, .int .i64 b3] → wz.cell? ⟨ho, 3, none⟩ = some (.bool a0) ∧ wz.cell? ⟨ho, 4, none⟩ = some (.int .i64 a1) ∧ wz.cell? ⟨ho, 5, none⟩ = some (.int .i64 a2) ∧ wz.cell? ⟨ho, 6, none⟩ = some (.int .i64 a3)) := Lib.hid fun wz h => ⟨h.cell 3, h.cell 4, h.cell 5, h.cell 6⟩
  have HBO : Hid (B ≤ ho) := Lib.hid (Nat.le_trans hBI hoI)
  obtain ⟨u1, hu1⟩ : ∃ z, z = w0.drew := ⟨_, rfl⟩
  have HC1 : Hid (OpI u1 wI B s hp hs hk SA sn sc xs kA kn kc ks hx nm A1 n1 c1 A2 n2 c2 A3 n3 c3 A4 n4 c4 l4 OA on oc os PA pn pc) := Lib.hid (by rw [hu1]; exact HI.out.drew_ hB)
  have HO1 : Hid (Bk u1 ho 344 #[.int .i64 d, .int .i64 t0, .int .i64 t1, .bool a0, .int .i64 a1, .int .i64 a2, .int .i64 a3, .bool b0, .int .i64 b1, .int .i64 b2, .int .i64 b3]) := Lib.hid (by rw [hu1]; exact ho_.drew)
  have HE : Hid (∀ args w, (callFunc 237 args).run Try.prog w = .ok (.enter 237 args) w) := Lib.hid (fun _ _ => by kernel_rfl)
  clear hI ho_ HI
  refine wp_region_noPanic ?_
  refine wp_region_L (late := [5]) (S := fun wz => wz.cell? ⟨ho, 3, none⟩ = some (.bool a0) ∧ wz.cell? ⟨ho, 4, none⟩ = some (.int .i64 a1) ∧ wz.cell? ⟨ho, 5, none⟩ = some (.int .i64 a2) ∧ wz.cell? ⟨ho, 6, none⟩ = some (.int .i64 a3)) (by kernel_rfl) ?_
  rw [← hu1]
  clear hu1
  refine wpAnyL_val (i := 0) (v := .pointer (some ⟨ho, 3, none⟩)) (d := some 121) rfl rfl (by kernel_rfl) (by kernel_rfl) (by kernel_rfl) (by kernel_rfl) (fun _ _ _ h => h) (Or.inl ⟨by rfl, fun w hS => by (obtain ⟨h0, h1, h2, h3⟩ := hS; go_simp)⟩) (HS.out _ HO1.out) ?_
  (try simp only [Act.put, List.setIfInBounds_toArray, List.set_cons_zero, List.set_cons_succ])
  refine wpAnyL_val (i := 1) (v := .agg #[.bool a0, .int .i64 a1, .int .i64 a2, .int .i64 a3]) (d := some 122) rfl rfl (by kernel_rfl) (by kernel_rfl) (by kernel_rfl) (by kernel_rfl) (fun _ _ _ h => h) (Or.inl ⟨by rfl, fun w hS => by (obtain ⟨h0, h1, h2, h3⟩ := hS; go_simp)⟩) (HS.out _ HO1.out) ?_
  (try simp only [Act.put, List.setIfInBounds_toArray, List.set_cons_zero, List.set_cons_succ])
  refine wpAnyL_val (i := 2) (v := .func (.func 237) #[] #[.pointer (some ⟨hp, 0, none⟩), .pointer (some ⟨hs, 0, none⟩), .pointer (some ⟨hk, 0, none⟩)]) (d := some 123) rfl rfl (by kernel_rfl) (by kernel_rfl) (by kernel_rfl) (by kernel_rfl) (fun _ _ _ h => h) (Or.inl ⟨by rfl, fun w hS => by (obtain ⟨h0, h1, h2, h3⟩ := hS; go_simp)⟩) (HS.out _ HO1.out) ?_
  (try simp only [Act.put, List.setIfInBounds_toArray, List.set_cons_zero, List.set_cons_succ])
  refine wpAnyL_one (i := 3) rfl (by kernel_rfl) (by rfl) ?_
  go_simp
  go_at_call 237
  (with_reducible refine (arg237_any HC1.out.arg hB).mono ?_)
  rintro e u2 ⟨e0, e1, e2, e3, rfl, hst2, hq2⟩
  have HC2 : Hid (OpI u2 wI B s hp hs hk SA sn sc xs kA kn kc ks hx nm A1 n1 c1 A2 n2 c2 A3 n3 c3 A4 n4 c4 l4 OA on oc os PA pn pc) := Lib.hid (HC1.out.next hst2 hq2)
  have HO2 : Hid (Bk u2 ho 344 #[.int .i64 d, .int .i64 t0, .int .i64 t1, .bool a0, .int .i64 a1, .int .i64 a2, .int .i64 a3, .bool b0, .int .i64 b1, .int .i64 b2, .int .i64 b3]) := Lib.hid ((Kx.fq (B' := 0) hq2 HC1.out.arg.st (Nat.zero_le _)).bk HO1.out (by decide))
  clear hst2 hq2
  refine And.intro (HS.out _ HO2.out) ?_
  (try simp only [Act.put, List.setIfInBounds_toArray, List.set_cons_zero, List.set_cons_succ])
  refine wpAnyL_val (i := 4) (v := .agg #[.int .i64 12, .int .i64 0, .int .i64 0, .bool a0, .int .i64 a1, .int .i64 a2, .int .i64 a3, .bool e0, .int .i64 e1, .int .i64 e2, .int .i64 e3]) (d := some 125) rfl rfl (by kernel_rfl) (by kernel_rfl) (by kernel_rfl) (by kernel_rfl) (fun _ _ _ h => h) (Or.inl ⟨by rfl, fun w hS => by (obtain ⟨h0, h1, h2, h3⟩ := hS; go_simp)⟩) (HS.out _ HO2.out) ?_
  (try simp only [Act.put, List.setIfInBounds_toArray, List.set_cons_zero, List.set_cons_succ])
  have z0 : u2.cell? ⟨ho, 0, none⟩ = some (.int .i64 d) := HO2.out.cell 0
  have y0 := HO2.out.frozen 0
  have z1 : u2.cell? ⟨ho, 1, none⟩ = some (.int .i64 t0) := HO2.out.cell 1
  have y1 := HO2.out.frozen 1
  have z2 : u2.cell? ⟨ho, 2, none⟩ = some (.int .i64 t1) := HO2.out.cell 2
  have y2 := HO2.out.frozen 2
  have z3 : u2.cell? ⟨ho, 3, none⟩ = some (.bool a0) := HO2.out.cell 3
  have y3 := HO2.out.frozen 3
  have z4 : u2.cell? ⟨ho, 4, none⟩ = some (.int .i64 a1) := HO2.out.cell 4
  have y4 := HO2.out.frozen 4
  have z5 : u2.cell? ⟨ho, 5, none⟩ = some (.int .i64 a2) := HO2.out.cell 5
  have y5 := HO2.out.frozen 5
  have z6 : u2.cell? ⟨ho, 6, none⟩ = some (.int .i64 a3) := HO2.out.cell 6
  have y6 := HO2.out.frozen 6
  have z7 : u2.cell? ⟨ho, 7, none⟩ = some (.bool b0) := HO2.out.cell 7
  have y7 := HO2.out.frozen 7
  have z8 : u2.cell? ⟨ho, 8, none⟩ = some (.int .i64 b1) := HO2.out.cell 8
  have y8 := HO2.out.frozen 8
  have z9 : u2.cell? ⟨ho, 9, none⟩ = some (.int .i64 b2) := HO2.out.cell 9
  have y9 := HO2.out.frozen 9
  have z10 : u2.cell? ⟨ho, 10, none⟩ = some (.int .i64 b3) := HO2.out.cell 10
  have y10 := HO2.out.frozen 10
  have HF : Hid (OpI (((((((((((u2.setCell ⟨ho, 0, none⟩ (.int .i64 12)).setCell ⟨ho, 1, none⟩ (.int .i64 0)).setCell ⟨ho, 2, none⟩ (.int .i64 0)).setCell ⟨ho, 3, none⟩ (.bool a0)).setCell ⟨ho, 4, none⟩ (.int .i64 a1)).setCell ⟨ho, 5, none⟩ (.int .i64 a2)).setCell ⟨ho, 6, none⟩ (.int .i64 a3)).setCell ⟨ho, 7, none⟩ (.bool e0)).setCell ⟨ho, 8, none⟩ (.int .i64 e1)).setCell ⟨ho, 9, none⟩ (.int .i64 e2)).setCell ⟨ho, 10, none⟩ (.int .i64 e3)) wI B s hp hs hk SA sn sc xs kA kn kc ks hx nm A1 n1 c1 A2 n2 c2 A3 n3 c3 A4 n4 c4 l4 OA on oc os PA pn pc ∧ Bk (((((((((((u2.setCell ⟨ho, 0, none⟩ (.int .i64 12)).setCell ⟨ho, 1, none⟩ (.int .i64 0)).setCell ⟨ho, 2, none⟩ (.int .i64 0)).setCell ⟨ho, 3, none⟩ (.bool a0)).setCell ⟨ho, 4, none⟩ (.int .i64 a1)).setCell ⟨ho, 5, none⟩ (.int .i64 a2)).setCell ⟨ho, 6, none⟩ (.int .i64 a3)).setCell ⟨ho, 7, none⟩ (.bool e0)).setCell ⟨ho, 8, none⟩ (.int .i64 e1)).setCell ⟨ho, 9, none⟩ (.int .i64 e2)).setCell ⟨ho, 10, none⟩ (.int .i64 e3)) ho 344 #[.int .i64 12, .int .i64 0, .int .i64 0, .bool a0, .int .i64 a1, .int .i64 a2, .int .i64 a3, .bool e0, .int .i64 e1, .int .i64 e2, .int .i64 e3] ∧ Fq [s] wI (((((((((((u2.setCell ⟨ho, 0, none⟩ (.int .i64 12)).setCell ⟨ho, 1, none⟩ (.int .i64 0)).setCell ⟨ho, 2, none⟩ (.int .i64 0)).setCell ⟨ho, 3, none⟩ (.bool a0)).setCell ⟨ho, 4, none⟩ (.int .i64 a1)).setCell ⟨ho, 5, none⟩ (.int .i64 a2)).setCell ⟨ho, 6, none⟩ (.int .i64 a3)).setCell ⟨ho, 7, none⟩ (.bool e0)).setCell ⟨ho, 8, none⟩ (.int .i64 e1)).setCell ⟨ho, 9, none⟩ (.int .i64 e2)).setCell ⟨ho, 10, none⟩ (.int .i64 e3))) := Lib.hid (by
    have h := HC2.out.op hB HO2.out hoI ((((((((((((Kx.refl (B := B) (F := [344])).set HO2.out HBO.out (by simp) 0 (.int .i64 12)).set (HO2.out.set_ 0 (.int .i64 12)) HBO.out (by simp) 1 (.int .i64 0)).set ((HO2.out.set_ 0 (.int .i64 12)).set_ 1 (.int .i64 0)) HBO.out (by simp) 2 (.int .i64 0)).set (((HO2.out.set_ 0 (.int .i64 12)).set_ 1 (.int .i64 0)).set_ 2 (.int .i64 0)) HBO.out (by simp) 3 (.bool a0)).set ((((HO2.out.set_ 0 (.int .i64 12)).set_ 1 (.int .i64 0)).set_ 2 (.int .i64 0)).set_ 3 (.bool a0)) HBO.out (by simp) 4 (.int .i64 a1)).set (((((HO2.out.set_ 0 (.int .i64 12)).set_ 1 (.int .i64 0)).set_ 2 (.int .i64 0)).set_ 3 (.bool a0)).set_ 4 (.int .i64 a1)) HBO.out (by simp) 5 (.int .i64 a2)).set ((((((HO2.out.set_ 0 (.int .i64 12)).set_ 1 (.int .i64 0)).set_ 2 (.int .i64 0)).set_ 3 (.bool a0)).set_ 4 (.int .i64 a1)).set_ 5 (.int .i64 a2)) HBO.out (by simp) 6 (.int .i64 a3)).set (((((((HO2.out.set_ 0 (.int .i64 12)).set_ 1 (.int .i64 0)).set_ 2 (.int .i64 0)).set_ 3 (.bool a0)).set_ 4 (.int .i64 a1)).set_ 5 (.int .i64 a2)).set_ 6 (.int .i64 a3)) HBO.out (by simp) 7 (.bool e0)).set ((((((((HO2.out.set_ 0 (.int .i64 12)).set_ 1 (.int .i64 0)).set_ 2 (.int .i64 0)).set_ 3 (.bool a0)).set_ 4 (.int .i64 a1)).set_ 5 (.int .i64 a2)).set_ 6 (.int .i64 a3)).set_ 7 (.bool e0)) HBO.out (by simp) 8 (.int .i64 e1)).set (((((((((HO2.out.set_ 0 (.int .i64 12)).set_ 1 (.int .i64 0)).set_ 2 (.int .i64 0)).set_ 3 (.bool a0)).set_ 4 (.int .i64 a1)).set_ 5 (.int .i64 a2)).set_ 6 (.int .i64 a3)).set_ 7 (.bool e0)).set_ 8 (.int .i64 e1)) HBO.out (by simp) 9 (.int .i64 e2)).set ((((((((((HO2.out.set_ 0 (.int .i64 12)).set_ 1 (.int .i64 0)).set_ 2 (.int .i64 0)).set_ 3 (.bool a0)).set_ 4 (.int .i64 a1)).set_ 5 (.int .i64 a2)).set_ 6 (.int .i64 a3)).set_ 7 (.bool e0)).set_ 8 (.int .i64 e1)).set_ 9 (.int .i64 e2)) HBO.out (by simp) 10 (.int .i64 e3)) (((((((((((HC2.out.fq.set (.inr hoI) 0 (.int .i64 12)).set (.inr hoI) 1 (.int .i64 0)).set (.inr hoI) 2 (.int .i64 0)).set (.inr hoI) 3 (.bool a0)).set (.inr hoI) 4 (.int .i64 a1)).set (.inr hoI) 5 (.int .i64 a2)).set (.inr hoI) 6 (.int .i64 a3)).set (.inr hoI) 7 (.bool e0)).set (.inr hoI) 8 (.int .i64 e1)).set (.inr hoI) 9 (.int .i64 e2)).set (.inr hoI) 10 (.int .i64 e3)) (own_farB (own_farB (own_farB (own_farB (own_farB (own_farB (own_farB (own_farB (own_farB (own_farB (own_farB HC2.out.ops hno) hno) hno) hno) hno) hno) hno) hno) hno) hno) hno)
    exact ⟨h, by simpa using (((((((((((HO2.out.set_ 0 (.int .i64 12)).set_ 1 (.int .i64 0)).set_ 2 (.int .i64 0)).set_ 3 (.bool a0)).set_ 4 (.int .i64 a1)).set_ 5 (.int .i64 a2)).set_ 6 (.int .i64 a3)).set_ 7 (.bool e0)).set_ 8 (.int .i64 e1)).set_ 9 (.int .i64 e2)).set_ 10 (.int .i64 e3)), h.fq⟩)
  refine wpAnyL_late (i := 5) rfl (by kernel_rfl) (by rfl) (by kernel_rfl) ?_
  go_simp
  (try simp only [Act.put, List.setIfInBounds_toArray, List.set_cons_zero, List.set_cons_succ])
  refine wpAnyL_done (by kernel_rfl) ?_ _
  refine NoPanic.normal ?_
  exact hN _ _ _ _ _ _ _ _ _ _ HF
/-! ### Cj -/
noncomputable def sySw : Code := (Try.f198.body.bind (blkN 5)).getD .skip
section
variable {w w' wI : World} {B s hp hs hk hx ho sn sc kn kc n1 c1 n2 c2 n3 c3 n4 c4 on oc pn pc : Nat} {SA kA A1 A2 A3 A4 OA PA : Option Addr} {xs l4 : List Int} {ks : List Kd} {nm : ByteArray} {os : List Value}
theorem OpI.at6 (h : OpI w wI B s hp hs hk SA sn sc xs kA kn kc ks hx nm A1 n1 c1 A2 n2 c2 A3 n3 c3 A4 n4 c4 l4 OA on oc os PA pn pc) (hB : B ≤ s) (hBI : B ≤ wI.heap.size) (PA2 : Option Addr) (pn2 pc2 : Nat) : OpI (w.setCell ⟨hx, 6, none⟩ (.slice PA2 pn2 pc2)) wI B s hp hs hk SA sn sc xs kA kn kc ks hx nm A1 n1 c1 A2 n2 c2 A3 n3 c3 A4 n4 c4 l4 OA on oc os PA2 pn2 pc2 := by
  have hq : Kx B [307] w (w.setCell ⟨hx, 6, none⟩ (.slice PA2 pn2 pc2)) := Kx.refl.set h.bx (Nat.le_trans hBI h.lx) (by simp) 6 _
  have hk := hq.mono (Nat.zero_le _) (fun _ h => h)
  exact ⟨⟨h.arg.st.kx hq (Nat.le_refl _) (h.arg.st.lo hB) (by decide), hk.bk h.arg.bp (by decide), hk.bk h.arg.bs (by decide), hk.bk h.arg.bk (by decide), h.arg.rd.keep hk (by decide), h.arg.cap, h.arg.cap2, h.arg.pos, h.arg.few, h.arg.inn, h.arg.kd.keep hk (by decide) (by decide), h.arg.fd⟩, by simpa using h.bx.set_ 6 (.slice PA2 pn2 pc2), h.w4.keep hk (by decide), h.cap4, h.cap42, h.i4, h.few4, hk.own h.ops (by decide), h.fq.set (.inr h.lx) 6 _, h.lx, Nat.le_trans h.sz hq.size⟩
end
set_option maxHeartbeats 16000000 in
theorem sySw_any {x0 x1 x2 x5 x6 x8 x9 x12 x13 x14 x15 x16 x17 x18 x19 x20 x21 x22 x23 x24 x25 x26 x27 x28 x29 x30 x31 x32 x33 x34 x35 x36 x37 x38 x39 x40 x41 x42 x43 x44 x45 x46 x47 x48 x49 x50 x51 x52 x53 x54 x55 x56 x57 x58 x59 x60 x61 x62 x63 x64 x65 x66 x67 x68 x69 x70 x71 x72 x73 x74 x75 x76 x77 x78 x79 x80 x81 x82 x83 x84 x85 x86 x87 x88 x89 x90 x91 x92 x93 x94 x95 x96 x97 x98 x99 x100 x101 x102 x103 x104 x105 x106 x107 x108 x109 x110 x111 x112 x113 x114 x115 x116 x117 x118 x119 x120 x121 x122 x123 x124 x125 x126 x127 x128 x129 x130 x131 x132 x133 x134 x135 x136 x137 x138 x139 x140 x141 x142 x143 x144 x145 x146 x147 x148 x149 x150 x151 x152 x153 x154 x155 x156 x157 x158 x159 x160 x161 x162 x163 x164 x165 x166 x167 x168 x169 x170 x171 x172 x173 x174 x175 x176 x177 x178 x179 x180 x181 x182 x183 x184 x185 x186 : Value} {Q : Exit → Act → World → Prop} {wI w0 : World} {B s hp hs hk hx ho sn sc kn kc n1 c1 n2 c2 n3 c3 n4 c4 on oc pn pc : Nat} {SA kA A1 A2 A3 A4 OA PA : Option Addr} {xs l4 : List Int} {ks : List Kd} {nm : ByteArray} {os : List Value} {d t0 t1 : Int} {a0 : Bool} {a1 a2 a3 : Int} {b0 : Bool} {b1 b2 b3 : Int}
    (hI : OpI w0 wI B s hp hs hk SA sn sc xs kA kn kc ks hx nm A1 n1 c1 A2 n2 c2 A3 n3 c3 A4 n4 c4 l4 OA on oc os PA pn pc) (hB : B ≤ s) (hBI : B ≤ wI.heap.size) (ho_ : Bk w0 ho 344 #[.int .i64 d, .int .i64 t0, .int .i64 t1, .bool a0, .int .i64 a1, .int .i64 a2, .int .i64 a3, .bool b0, .int .i64 b1, .int .i64 b2, .int .i64 b3]) (hoI : wI.heap.size ≤ ho) (hno : (Value.slice OA on oc).ownBlock ≠ some ho)
    (hone : ∀ k ∈ ks, oneF k.nm k.fds = 0) (hkn : kn ≤ 16) (hk1 : 1 ≤ kn) (hd0 : 0 ≤ d) (hd1 : d < 13)
    (hN : ∀ (y12 y111 y112 y113 y114 y115 y116 y117 y118 y119 y120 y121 y122 y123 y124 y125 y126 y127 y128 y129 y130 y131 y132 y133 y134 y135 y136 y137 y138 y139 y140 y141 y142 y143 y144 y145 y146 y147 y148 y149 y150 y151 y152 y153 y154 y155 y156 y157 y158 y159 y160 y161 y162 y163 y164 y165 y166 y167 y168 y169 y170 y171 y172 y173 y174 y175 y176 y177 y178 : Value) (d t0 t1 : Int) (a0 : Bool) (a1 a2 a3 : Int) (b0 : Bool) (b1 b2 b3 : Int) (PA : Option Addr) (pn pc : Nat) (w' : World), Hid (OpI w' wI B s hp hs hk SA sn sc xs kA kn kc ks hx nm A1 n1 c1 A2 n2 c2 A3 n3 c3 A4 n4 c4 l4 OA on oc os PA pn pc ∧ Bk w' ho 344 #[.int .i64 d, .int .i64 t0, .int .i64 t1, .bool a0, .int .i64 a1, .int .i64 a2, .int .i64 a3, .bool b0, .int .i64 b1, .int .i64 b2, .int .i64 b3]) → Q .normal ⟨#[x0, x1, x2, .pointer (some ⟨hk, 0, none⟩), .pointer (some ⟨hp, 0, none⟩), x5, x6, .pointer (some ⟨hx, 0, none⟩), x8, x9, .func (.func 237) #[] #[.pointer (some ⟨hp, 0, none⟩), .pointer (some ⟨hs, 0, none⟩), .pointer (some ⟨hk, 0, none⟩)], .pointer (some ⟨ho, 0, none⟩), y12, x13, x14, x15, x16, x17, x18, x19, x20, x21, x22, x23, x24, x25, x26, x27, x28, x29, x30, x31, x32, x33, x34, x35, x36, x37, x38, x39, x40, x41, x42, x43, x44, x45, x46, x47, x48, x49, x50, x51, x52, x53, x54, x55, x56, x57, x58, x59, x60, x61, x62, x63, x64, x65, x66, x67, x68, x69, x70, x71, x72, x73, x74, x75, x76, x77, x78, x79, x80, x81, x82, x83, x84, x85, x86, x87, x88, x89, x90, x91, x92, x93, x94, x95, x96, x97, x98, x99, x100, x101, x102, x103, x104, x105, x106, x107, x108, x109, x110, y111, y112, y113, y114, y115, y116, y117, y118, y119, y120, y121, y122, y123, y124, y125, y126, y127, y128, y129, y130, y131, y132, y133, y134, y135, y136, y137, y138, y139, y140, y141, y142, y143, y144, y145, y146, y147, y148, y149, y150, y151, y152, y153, y154, y155, y156, y157, y158, y159, y160, y161, y162, y163, y164, y165, y166, y167, y168, y169, y170, y171, y172, y173, y174, y175, y176, y177, y178, x179, x180, x181, x182, x183, x184, x185, x186], []⟩ w') :
    Code.wp Try.prog sySw Q ⟨#[x0, x1, x2, .pointer (some ⟨hk, 0, none⟩), .pointer (some ⟨hp, 0, none⟩), x5, x6, .pointer (some ⟨hx, 0, none⟩), x8, x9, .func (.func 237) #[] #[.pointer (some ⟨hp, 0, none⟩), .pointer (some ⟨hs, 0, none⟩), .pointer (some ⟨hk, 0, none⟩)], .pointer (some ⟨ho, 0, none⟩), x12, x13, x14, x15, x16, x17, x18, x19, x20, x21, x22, x23, x24, x25, x26, x27, x28, x29, x30, x31, x32, x33, x34, x35, x36, x37, x38, x39, x40, x41, x42, x43, x44, x45, x46, x47, x48, x49, x50, x51, x52, x53, x54, x55, x56, x57, x58, x59, x60, x61, x62, x63, x64, x65, x66, x67, x68, x69, x70, x71, x72, x73, x74, x75, x76, x77, x78, x79, x80, x81, x82, x83, x84, x85, x86, x87, x88, x89, x90, x91, x92, x93, x94, x95, x96, x97, x98, x99, x100, x101, x102, x103, x104, x105, x106, x107, x108, x109, x110, x111, x112, x113, x114, x115, x116, x117, x118, x119, x120, x121, x122, x123, x124, x125, x126, x127, x128, x129, x130, x131, x132, x133, x134, x135, x136, x137, x138, x139, x140, x141, x142, x143, x144, x145, x146, x147, x148, x149, x150, x151, x152, x153, x154, x155, x156, x157, x158, x159, x160, x161, x162, x163, x164, x165, x166, x167, x168, x169, x170, x171, x172, x173, x174, x175, x176, x177, x178, x179, x180, x181, x182, x183, x184, x185, x186], []⟩ w0 := by
  conv => arg 2; whnf
  have HNX := Lib.hid next_any
  have HI := Lib.hid hI
  have HO := Lib.hid ho_
  have HON := Lib.hid hone
  have p0 : w0.cell? ⟨hp, 0, none⟩ = some (.pointer (some ⟨s, 0, none⟩)) := hI.arg.bp.cell 0
  have p1 : w0.cell? ⟨hk, 0, none⟩ = some (.slice kA kn kc) := hI.arg.bk.cell 0
  have p2 : w0.cell? ⟨hx, 4, none⟩ = some (.slice A4 n4 c4) := hI.bx.cell 4
  have p3 : w0.cell? ⟨hx, 6, none⟩ = some (.slice PA pn pc) := hI.bx.cell 6
  have p4 : w0.cell? ⟨ho, 0, none⟩ = some (.int .i64 d) := ho_.cell 0
  have hosn : ho ≠ s := by
    obtain ⟨cs, h1⟩ := hI.arg.st.bk
    exact ho_.ne_ h1 (by decide)
  have hkc1 := hI.arg.kd.cap
  have hkc2 := hI.arg.kd.cap2
  have hc4 := hI.cap4
  clear hI ho_ hone
  by_cases hd7 : d ≤ 7
  · by_cases hn0 : n4 = 0
    · have t0_ : ((n4 : Int) == 0) = true := by simp [hn0]
      clear hn0
      go_upto_region 23 with fail
      refine sy23_any HI.out hB HO.out hoI hBI hno ?_
      intros
      rename_i e0 e1 e2 e3 w7 H7
      have HF := Lib.hid (And.intro H7.out.1 H7.out.2.1)
      clear H7 HI HO p0 p1 p2 p3 p4
      go_wp2_with fail
      (try simp only [Exit.inBlock, Exit.then])
      first
        | exact HF
        | exact hN _ _ _ _ _ _ _ _ _ _ _ _ _ _ _ _ _ _ _ _ _ _ _ _ _ _ _ _ _ _ _ _ _ _ _ _ _ _ _ _ _ _ _ _ _ _ _ _ _ _ _ _ _ _ _ _ _ _ _ _ _ _ _ _ _ _ _ _ _ _ _ _ _ _ _ _ _ _ _ _ _ _ _ _ HF
    · have t0_ : ((n4 : Int) == 0) = false := by simp [hn0]
      have hn4 : 0 < n4 := by omega
      clear hn0
      go_upto_region 25 with fail
      refine sy25_any (_d := 0) (_t0 := 0) (_t1 := 0) (_a0 := true) (_a1 := 0) (_a2 := 0) (_a3 := 0) (_b0 := true) (_b1 := 0) (_b2 := 0) (_b3 := 0) HI.out hB hn4 ?_
      intros
      rename_i x w6 H6
      have HO6 : Hid (Bk w6 ho 344 #[.int .i64 d, .int .i64 t0, .int .i64 t1, .bool a0, .int .i64 a1, .int .i64 a2, .int .i64 a3, .bool b0, .int .i64 b1, .int .i64 b2, .int .i64 b3]) := Lib.hid ((Kx.fq (B' := 0) H6.out.2.2 HI.out.arg.st (Nat.zero_le _)).bk HO.out (by decide))
      have hxk := H6.out.1
      have HI6 := Lib.hid H6.out.2.1
      clear H6 HI HO p0 p1 p2 p3 p4
      go_upto_region 26 with fail
      refine sy26_any HI6.out hB hxk HO6.out hoI hBI hno ?_
      intros
      rename_i u0 u1 w7 H7
      have HF := Lib.hid (And.intro H7.out.1 H7.out.2.1)
      clear H7 HI6 HO6
      go_wp2_with fail
      (try simp only [Exit.inBlock, Exit.then])
      first
        | exact HF
        | exact hN _ _ _ _ _ _ _ _ _ _ _ _ _ _ _ _ _ _ _ _ _ _ _ _ _ _ _ _ _ _ _ _ _ _ _ _ _ _ _ _ _ _ _ _ _ _ _ _ _ _ _ _ _ _ _ _ _ _ _ _ _ _ _ _ _ _ _ _ _ _ _ _ _ _ _ _ _ _ _ _ _ _ _ _ HF
  · rcases (show d = 8 ∨ d = 9 ∨ d = 10 ∨ d = 11 ∨ d = 12 by omega) with rfl | rfl | rfl | rfl | rfl
    · clear hd7 hd0 hd1
      go_wp2_with fail
      (with_reducible refine (HNX.out s B kn _ HI.out.arg.st hB (by omega) (by omega)).mono ?_)
      rintro e w7 ⟨v, rfl, hv0, hv1, hst7, hg7⟩
      have HI7 : Hid (OpI w7 wI B s hp hs hk SA sn sc xs kA kn kc ks hx nm A1 n1 c1 A2 n2 c2 A3 n3 c3 A4 n4 c4 l4 OA on oc os PA pn pc) := Lib.hid (HI.out.next hst7 (Fq.refl.grown hg7 fun g hg => .inl (by injection hg with hg; simp [hg])))
      have HO7 : Hid (Bk w7 ho 344 #[.int .i64 8, .int .i64 t0, .int .i64 t1, .bool a0, .int .i64 a1, .int .i64 a2, .int .i64 a3, .bool b0, .int .i64 b1, .int .i64 b2, .int .i64 b3]) := Lib.hid (HO.out.grown hg7 (fun e => by injection e with e; omega))
      clear hst7 hg7 p0 p1 p2 p3 p4
      have z1 : w7.cell? ⟨ho, 1, none⟩ = some (.int .i64 t0) := HO7.out.cell 1
      have z2 : w7.cell? ⟨ho, 2, none⟩ = some (.int .i64 t1) := HO7.out.cell 2
      have y1 := HO7.out.frozen 1
      have y2 := HO7.out.frozen 2
      have hBO : B ≤ ho := Nat.le_trans hBI hoI
      have HF : Hid (OpI ((w7.setCell ⟨ho, 1, none⟩ (.int .i64 v)).setCell ⟨ho, 2, none⟩ (.int .i64 0)) wI B s hp hs hk SA sn sc xs kA kn kc ks hx nm A1 n1 c1 A2 n2 c2 A3 n3 c3 A4 n4 c4 l4 OA on oc os PA pn pc ∧ Bk ((w7.setCell ⟨ho, 1, none⟩ (.int .i64 v)).setCell ⟨ho, 2, none⟩ (.int .i64 0)) ho 344 #[.int .i64 8, .int .i64 v, .int .i64 0, .bool a0, .int .i64 a1, .int .i64 a2, .int .i64 a3, .bool b0, .int .i64 b1, .int .i64 b2, .int .i64 b3]) := Lib.hid
        ⟨HI7.out.op hB HO7.out hoI ((Kx.refl.set HO7.out hBO (by simp) 1 (.int .i64 v)).set (HO7.out.set_ 1 _) hBO (by simp) 2 (.int .i64 0)) ((HI7.out.fq.set (.inr hoI) 1 _).set (.inr hoI) 2 _) (own_farB (own_farB HI7.out.ops hno) hno), by simpa using (HO7.out.set_ 1 (.int .i64 v)).set_ 2 (.int .i64 0)⟩
      clear HI HO HI7 HO7
      go_wp2_with fail
      (try simp only [Exit.inBlock, Exit.then])
      first
        | exact HF
        | exact hN _ _ _ _ _ _ _ _ _ _ _ _ _ _ _ _ _ _ _ _ _ _ _ _ _ _ _ _ _ _ _ _ _ _ _ _ _ _ _ _ _ _ _ _ _ _ _ _ _ _ _ _ _ _ _ _ _ _ _ _ _ _ _ _ _ _ _ _ _ _ _ _ _ _ _ _ _ _ _ _ _ _ _ _ HF
    · clear hd7 hd0 hd1
      go_wp2_with fail
      (with_reducible refine (HNX.out s B kn _ HI.out.arg.st hB (by omega) (by omega)).mono ?_)
      rintro e w7 ⟨v, rfl, hv0, hv1, hst7, hg7⟩
      have HI7 : Hid (OpI w7 wI B s hp hs hk SA sn sc xs kA kn kc ks hx nm A1 n1 c1 A2 n2 c2 A3 n3 c3 A4 n4 c4 l4 OA on oc os PA pn pc) := Lib.hid (HI.out.next hst7 (Fq.refl.grown hg7 fun g hg => .inl (by injection hg with hg; simp [hg])))
      have HO7 : Hid (Bk w7 ho 344 #[.int .i64 9, .int .i64 t0, .int .i64 t1, .bool a0, .int .i64 a1, .int .i64 a2, .int .i64 a3, .bool b0, .int .i64 b1, .int .i64 b2, .int .i64 b3]) := Lib.hid (HO.out.grown hg7 (fun e => by injection e with e; omega))
      clear hst7 hg7 p0 p1 p2 p3 p4
      have z1 : w7.cell? ⟨ho, 1, none⟩ = some (.int .i64 t0) := HO7.out.cell 1
      have z2 : w7.cell? ⟨ho, 2, none⟩ = some (.int .i64 t1) := HO7.out.cell 2
      have y1 := HO7.out.frozen 1
      have y2 := HO7.out.frozen 2
      have hBO : B ≤ ho := Nat.le_trans hBI hoI
      have HF : Hid (OpI ((w7.setCell ⟨ho, 1, none⟩ (.int .i64 v)).setCell ⟨ho, 2, none⟩ (.int .i64 0)) wI B s hp hs hk SA sn sc xs kA kn kc ks hx nm A1 n1 c1 A2 n2 c2 A3 n3 c3 A4 n4 c4 l4 OA on oc os PA pn pc ∧ Bk ((w7.setCell ⟨ho, 1, none⟩ (.int .i64 v)).setCell ⟨ho, 2, none⟩ (.int .i64 0)) ho 344 #[.int .i64 9, .int .i64 v, .int .i64 0, .bool a0, .int .i64 a1, .int .i64 a2, .int .i64 a3, .bool b0, .int .i64 b1, .int .i64 b2, .int .i64 b3]) := Lib.hid
        ⟨HI7.out.op hB HO7.out hoI ((Kx.refl.set HO7.out hBO (by simp) 1 (.int .i64 v)).set (HO7.out.set_ 1 _) hBO (by simp) 2 (.int .i64 0)) ((HI7.out.fq.set (.inr hoI) 1 _).set (.inr hoI) 2 _) (own_farB (own_farB HI7.out.ops hno) hno), by simpa using (HO7.out.set_ 1 (.int .i64 v)).set_ 2 (.int .i64 0)⟩
      clear HI HO HI7 HO7
      go_wp2_with fail
      (try simp only [Exit.inBlock, Exit.then])
      first
        | exact HF
        | exact hN _ _ _ _ _ _ _ _ _ _ _ _ _ _ _ _ _ _ _ _ _ _ _ _ _ _ _ _ _ _ _ _ _ _ _ _ _ _ _ _ _ _ _ _ _ _ _ _ _ _ _ _ _ _ _ _ _ _ _ _ _ _ _ _ _ _ _ _ _ _ _ _ _ _ _ _ _ _ _ _ _ _ _ _ HF
    · clear hd7 hd0 hd1
      have HF : Hid (OpI w0 wI B s hp hs hk SA sn sc xs kA kn kc ks hx nm A1 n1 c1 A2 n2 c2 A3 n3 c3 A4 n4 c4 l4 OA on oc os PA pn pc ∧ Bk w0 ho 344 #[.int .i64 10, .int .i64 t0, .int .i64 t1, .bool a0, .int .i64 a1, .int .i64 a2, .int .i64 a3, .bool b0, .int .i64 b1, .int .i64 b2, .int .i64 b3]) := Lib.hid ⟨HI.out, HO.out⟩
      go_wp2_with fail
      (try simp only [Exit.inBlock, Exit.then])
      first
        | exact HF
        | exact hN _ _ _ _ _ _ _ _ _ _ _ _ _ _ _ _ _ _ _ _ _ _ _ _ _ _ _ _ _ _ _ _ _ _ _ _ _ _ _ _ _ _ _ _ _ _ _ _ _ _ _ _ _ _ _ _ _ _ _ _ _ _ _ _ _ _ _ _ _ _ _ _ _ _ _ _ _ _ _ _ _ _ _ _ HF
    · clear hd7 hd0 hd1
      by_cases hp0 : pn = 0
      · have t0_ : ((pn : Int) == 0) = true := by simp [hp0]
        clear hp0
        have HMK := Lib.hid (mkcomps_any s B kA kn kc ks w0 HI.out.arg.st hB (HI.out.arg.kd.more (Nat.zero_le _)) HON.out hkn)
        go_wp2_with fail
        (with_reducible refine HMK.out.mono ?_)
        rintro e w7 ⟨CA, cc, l, rfl, hcs7, hst7, hq7⟩
        have HI7 : Hid (OpI w7 wI B s hp hs hk SA sn sc xs kA kn kc ks hx nm A1 n1 c1 A2 n2 c2 A3 n3 c3 A4 n4 c4 l4 OA on oc os PA pn pc) := Lib.hid (HI.out.next hst7 hq7)
        have HO7 : Hid (Bk w7 ho 344 #[.int .i64 11, .int .i64 t0, .int .i64 t1, .bool a0, .int .i64 a1, .int .i64 a2, .int .i64 a3, .bool b0, .int .i64 b1, .int .i64 b2, .int .i64 b3]) := Lib.hid ((Kx.fq (B' := 0) hq7 HI.out.arg.st (Nat.zero_le _)).bk HO.out (by decide))
        clear hcs7 hst7 hq7 HMK p0 p1 p2 p3 p4
        have z0 : w7.cell? ⟨hx, 6, none⟩ = some (.slice PA pn pc) := HI7.out.bx.cell 6
        have z1 := HI7.out.bx.frozen 6
        have HF : Hid (OpI (w7.setCell ⟨hx, 6, none⟩ (.slice CA l.length cc)) wI B s hp hs hk SA sn sc xs kA kn kc ks hx nm A1 n1 c1 A2 n2 c2 A3 n3 c3 A4 n4 c4 l4 OA on oc os CA l.length cc ∧ Bk (w7.setCell ⟨hx, 6, none⟩ (.slice CA l.length cc)) ho 344 #[.int .i64 11, .int .i64 t0, .int .i64 t1, .bool a0, .int .i64 a1, .int .i64 a2, .int .i64 a3, .bool b0, .int .i64 b1, .int .i64 b2, .int .i64 b3]) := Lib.hid ⟨HI7.out.at6 hB hBI CA l.length cc, HO7.out.far (p := ⟨hx, 6, none⟩) (HO7.out.ne_ HI7.out.bx (by decide)) _⟩
        clear HI HO HI7 HO7
        go_wp2_with fail
        (try simp only [Exit.inBlock, Exit.then])
        first
          | exact HF
          | exact hN _ _ _ _ _ _ _ _ _ _ _ _ _ _ _ _ _ _ _ _ _ _ _ _ _ _ _ _ _ _ _ _ _ _ _ _ _ _ _ _ _ _ _ _ _ _ _ _ _ _ _ _ _ _ _ _ _ _ _ _ _ _ _ _ _ _ _ _ _ _ _ _ _ _ _ _ _ _ _ _ _ _ _ _ HF
      · have t0_ : ((pn : Int) == 0) = false := by simp [hp0]
        clear hp0
        have HF : Hid (OpI w0 wI B s hp hs hk SA sn sc xs kA kn kc ks hx nm A1 n1 c1 A2 n2 c2 A3 n3 c3 A4 n4 c4 l4 OA on oc os PA pn pc ∧ Bk w0 ho 344 #[.int .i64 11, .int .i64 t0, .int .i64 t1, .bool a0, .int .i64 a1, .int .i64 a2, .int .i64 a3, .bool b0, .int .i64 b1, .int .i64 b2, .int .i64 b3]) := Lib.hid ⟨HI.out, HO.out⟩
        go_wp2_with fail
        (try simp only [Exit.inBlock, Exit.then])
        first
          | exact HF
          | exact hN _ _ _ _ _ _ _ _ _ _ _ _ _ _ _ _ _ _ _ _ _ _ _ _ _ _ _ _ _ _ _ _ _ _ _ _ _ _ _ _ _ _ _ _ _ _ _ _ _ _ _ _ _ _ _ _ _ _ _ _ _ _ _ _ _ _ _ _ _ _ _ _ _ _ _ _ _ _ _ _ _ _ _ _ HF
    · clear hd7 hd0 hd1
      have HF : Hid (OpI w0 wI B s hp hs hk SA sn sc xs kA kn kc ks hx nm A1 n1 c1 A2 n2 c2 A3 n3 c3 A4 n4 c4 l4 OA on oc os PA pn pc ∧ Bk w0 ho 344 #[.int .i64 12, .int .i64 t0, .int .i64 t1, .bool a0, .int .i64 a1, .int .i64 a2, .int .i64 a3, .bool b0, .int .i64 b1, .int .i64 b2, .int .i64 b3]) := Lib.hid ⟨HI.out, HO.out⟩
      go_wp2_with fail
      (try simp only [Exit.inBlock, Exit.then])
      first
        | exact HF
        | exact hN _ _ _ _ _ _ _ _ _ _ _ _ _ _ _ _ _ _ _ _ _ _ _ _ _ _ _ _ _ _ _ _ _ _ _ _ _ _ _ _ _ _ _ _ _ _ _ _ _ _ _ _ _ _ _ _ _ _ _ _ _ _ _ _ _ _ _ _ _ _ _ _ _ _ _ _ _ _ _ _ _ _ _ _ HF
end Go.Proofs.Ytnidcmhfbkdioaa
