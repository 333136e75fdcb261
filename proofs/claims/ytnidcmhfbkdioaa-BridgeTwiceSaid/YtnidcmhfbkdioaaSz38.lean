/-
  Lemmas for the walk, merged (Bi Eh). No condition but those in each statement.
-/
import Derived.Test.YtnidcmhfbkdioaaSz35
import Derived.Test.YtnidcmhfbkdioaaSz37
namespace Go.Proofs.Ytnidcmhfbkdioaa
/-! ### Bi -/
open Go.RowKit
set_option maxRecDepth 100000
theorem T.info131 : (Try.prog.info? 131).map (fun i => (i.zero, i.size, i.bytes)) = some (some (.agg #[.int .i64 0, .int .i64 0, .int .i64 0, .int .i64 0, .int .i64 0, .int .i64 0, .int .i64 0, .int .i64 0, .int .i64 0, .int .i64 0]), 10, 80) := by kernel_rfl
noncomputable def scCon : Code := (Try.f56.body.bind (blkN 3)).getD .skip
set_option maxHeartbeats 8000000 in
theorem scCon_any {x0 x1 x2 x3 x4 x5 x6 x7 x8 x9 x10 x11 x12 x13 x15 x17 x18 x19 x20 x21 x22 x23 x24 x25 x26 x27 x28 x29 x30 x31 x32 x33 x34 x35 x36 x37 x38 x39 x40 x41 x42 x43 x44 x45 x46 x47 x48 x49 x50 x51 x52 x53 x54 x55 x56 x57 x58 x59 x60 x61 x62 x63 x64 x65 x66 x67 x68 x69 x70 x71 x72 x73 x74 x75 x76 x77 x78 x79 x80 x81 x82 x83 x85 x87 x88 x89 x90 x91 x92 x93 x94 x95 x96 x97 x98 x99 x100 x101 x102 x103 x104 x105 x106 x107 x108 x109 x110 x111 x112 x113 x114 x115 x116 x117 x118 x119 x120 : Value} {Q : Exit → Act → World → Prop} {w0 : World} {B base sA mp nm cn cc j kn kc : Nat} {cA kA : Option Addr} {cl D : List Ct} {ct : Ct} {f : Int → Option Int} {V0 V1 V2 V3 : Value}
    (hrd : Rd w0 B 10 cA cn (ctCs cl)) (hcl : cn = cl.length) (_hcap : cn ≤ cc) (_hcap2 : cc ≤ 9223372036854775807) (hj : cl[j]? = some ct) (hwa : (Lit.int .i64 ct.a).wf = true) (hwb : (Lit.int .i64 ct.b).wf = true) (hM : MpI w0 mp nm f)
    (hS : Bk w0 sA 115 #[V0, .slice none 0 0, .slice kA kn kc, V1, V2, V3]) (hO : w0.ownsRow base 131 10 (.slice kA kn kc) kn (ctCs D)) (hkn : (kn + 1) * 80 ≤ 140737488355328) (hbase : base ≤ w0.heap.size) (hsA : base ≤ sA)
    (hN : ∀ (y22 y23 y24 y25 y26 y88 y89 y90 y91 y92 y93 y94 y95 y96 y97 y98 y99 y100 y101 y102 y103 y104 y105 y106 y107 y108 y109 y110 y111 y112 y113 y114 y115 y116 y117 : Value) (w' : World), Hid ((∃ kA' kn' kc', Bk w' sA 115 #[V0, .slice none 0 0, .slice kA' kn' kc', V1, V2, V3] ∧ w'.ownsRow base 131 10 (.slice kA' kn' kc') kn' (ctCs (D ++ ctF1 f ct)) ∧ kn' ≤ kn + 1) ∧ Kz [131, 115] w0 w' ∧ Below base w0 w' ∧ ∀ g cs, g ≠ sA → Bk w0 g 115 cs → Bk w' g 115 cs) → Q .normal ⟨#[x0, x1, x2, x3, x4, x5, x6, x7, x8, x9, x10, x11, x12, x13, .pointer (some ⟨sA, 0, none⟩), x15, .map (some mp), x17, x18, x19, x20, x21, y22, y23, y24, y25, y26, x27, x28, x29, x30, x31, x32, x33, x34, x35, x36, x37, x38, x39, x40, x41, x42, x43, x44, x45, x46, x47, x48, x49, x50, x51, x52, x53, x54, x55, x56, x57, x58, x59, x60, x61, x62, x63, x64, x65, x66, x67, x68, x69, x70, x71, x72, x73, x74, x75, x76, x77, x78, x79, x80, x81, x82, x83, .slice cA cn cc, x85, .int .i64 (j : Int), x87, y88, y89, y90, y91, y92, y93, y94, y95, y96, y97, y98, y99, y100, y101, y102, y103, y104, y105, y106, y107, y108, y109, y110, y111, y112, y113, y114, y115, y116, y117, x118, x119, x120], []⟩ w') :
    Code.wp Try.prog scCon Q ⟨#[x0, x1, x2, x3, x4, x5, x6, x7, x8, x9, x10, x11, x12, x13, .pointer (some ⟨sA, 0, none⟩), x15, .map (some mp), x17, x18, x19, x20, x21, x22, x23, x24, x25, x26, x27, x28, x29, x30, x31, x32, x33, x34, x35, x36, x37, x38, x39, x40, x41, x42, x43, x44, x45, x46, x47, x48, x49, x50, x51, x52, x53, x54, x55, x56, x57, x58, x59, x60, x61, x62, x63, x64, x65, x66, x67, x68, x69, x70, x71, x72, x73, x74, x75, x76, x77, x78, x79, x80, x81, x82, x83, .slice cA cn cc, x85, .int .i64 (j : Int), x87, x88, x89, x90, x91, x92, x93, x94, x95, x96, x97, x98, x99, x100, x101, x102, x103, x104, x105, x106, x107, x108, x109, x110, x111, x112, x113, x114, x115, x116, x117, x118, x119, x120], []⟩ w0 := by
  conv => arg 2; whnf
  obtain ⟨iC, hiC, hC0, hC1, hC2⟩ := info_parts T.info131
  have hjn : j < cn := by rw [hcl]; exact (List.getElem?_eq_some_iff.1 hj).1
  obtain ⟨bi, oi, hcA, hbi, q0, q1, q2, q3, q4, q5, q6, q7, q8, q9⟩ := Rd.ct hrd hjn hj
  subst hcA
  have hjz : (j : Int) < cn := by omega
  have hjz0 : (0 : Int) ≤ j := by omega
  obtain ⟨ca, hca⟩ : ∃ z, z = w0.heap.size := ⟨_, rfl⟩
  obtain ⟨W1, hW1⟩ : ∃ z, z = w0.alloc (.cells #[.int .i64 ct.a, .int .i64 ct.b, .int .i64 ct.id, .int .i64 ct.px, .int .i64 ct.py, .int .i64 ct.nx, .int .i64 ct.ny, .int .i64 ct.dp, .int .i64 ct.ps, .int .i64 ct.sl] 131) := ⟨_, rfl⟩
  have hb1 : Below w0.heap.size w0 W1 := by rw [hW1]; exact (Below.refl _ _).alloc (Nat.le_refl _) _
  have HCA : Hid (Bk W1 ca 131 #[.int .i64 ct.a, .int .i64 ct.b, .int .i64 ct.id, .int .i64 ct.px, .int .i64 ct.py, .int .i64 ct.nx, .int .i64 ct.ny, .int .i64 ct.dp, .int .i64 ct.ps, .int .i64 ct.sl]) := Lib.hid (by rw [hW1, hca]; exact Bk.new _ _ _)
  have HS1 : Hid (Bk W1 sA 115 #[V0, .slice none 0 0, .slice kA kn kc, V1, V2, V3]) := Lib.hid (hS.below hb1 hS.lt)
  have HO1 : Hid (W1.ownsRow base 131 10 (.slice kA kn kc) kn (ctCs D)) := Lib.hid ((Kx.of_below (B := 0) (F := []) hb1).own hO (by simp))
  have HNE : Hid ((Value.slice kA kn kc).ownBlock ≠ some ca) := Lib.hid (by
    intro e
    have := (hO.lt ca e).2
    omega)
  have hM1 : MpI W1 mp nm f := hM.keep (F := []) (Kz.of_below hb1)
  have hla := hM1.look (t := 238) Try.underlying238 hwa W1 rfl
  have hlb := hM1.look (t := 238) Try.underlying238 hwb W1 rfl
  have HB1 : Hid (Kz [131, 115] w0 W1 ∧ Below base w0 W1 ∧ ∀ g cs, g ≠ sA → Bk w0 g 115 cs → Bk W1 g 115 cs) := Lib.hid ⟨Kz.of_below hb1, hb1.mono hbase, fun g cs _ h => h.below hb1 h.lt⟩
  have HSZ : Hid (base ≤ W1.heap.size ∧ base ≤ ca) := Lib.hid ⟨Nat.le_trans hbase hb1.size, by rw [hca]; exact hbase⟩
  have HKN := Lib.hid hkn
  clear hrd hcl hj hM hS hO hM1 hb1 hbi hwa hwb
  go_upto_region 23 with fail
  rw [← hW1, ← hca]
  clear q0 q1 q2 q3 q4 q5 q6 q7 q8 q9 hW1 hca
  have i0 : W1.cell? ⟨ca, 0, none⟩ = some (.int .i64 ct.a) := HCA.out.cell 0
  have i1 : W1.cell? ⟨ca, 1, none⟩ = some (.int .i64 ct.b) := HCA.out.cell 1
  have i2 : W1.cell? ⟨ca, 2, none⟩ = some (.int .i64 ct.id) := HCA.out.cell 2
  have i3 : W1.cell? ⟨ca, 3, none⟩ = some (.int .i64 ct.px) := HCA.out.cell 3
  have i4 : W1.cell? ⟨ca, 4, none⟩ = some (.int .i64 ct.py) := HCA.out.cell 4
  have i5 : W1.cell? ⟨ca, 5, none⟩ = some (.int .i64 ct.nx) := HCA.out.cell 5
  have i6 : W1.cell? ⟨ca, 6, none⟩ = some (.int .i64 ct.ny) := HCA.out.cell 6
  have i7 : W1.cell? ⟨ca, 7, none⟩ = some (.int .i64 ct.dp) := HCA.out.cell 7
  have i8 : W1.cell? ⟨ca, 8, none⟩ = some (.int .i64 ct.ps) := HCA.out.cell 8
  have i9 : W1.cell? ⟨ca, 9, none⟩ = some (.int .i64 ct.sl) := HCA.out.cell 9
  obtain ⟨fa, hfa⟩ : ∃ z, z = f ct.a := ⟨_, rfl⟩
  obtain ⟨fb, hfb⟩ : ∃ z, z = f ct.b := ⟨_, rfl⟩
  rw [← hfa] at hla
  rw [← hfb] at hlb
  have HF : Hid (fa = f ct.a ∧ fb = f ct.b) := Lib.hid ⟨hfa, hfb⟩
  clear hfa hfb
  have hskip : fa = none ∨ fb = none → Hid (∃ w', w' = W1 ∧ (∃ kA' kn' kc', Bk w' sA 115 #[V0, .slice none 0 0, .slice kA' kn' kc', V1, V2, V3] ∧ w'.ownsRow base 131 10 (.slice kA' kn' kc') kn' (ctCs (D ++ ctF1 f ct)) ∧ kn' ≤ kn + 1) ∧ Kz [131, 115] w0 w' ∧ Below base w0 w' ∧ ∀ g cs, g ≠ sA → Bk w0 g 115 cs → Bk w' g 115 cs) := fun h => Lib.hid ⟨W1, rfl, ⟨kA, kn, kc, HS1.out, by
    have e : ctF1 f ct = [] := by
      unfold ctF1
      rw [← HF.out.1, ← HF.out.2]
      rcases h with rfl | rfl
      · rfl
      · cases fa <;> rfl
    rw [e, List.append_nil]
    exact HO1.out, by omega⟩, HB1.out⟩
  have HSK := Lib.hid hskip
  clear hskip
  rcases fa with _ | va
  · dsimp only [Option.getD, Option.isSome] at hla
    go_wp2_with fail
    (try simp only [Exit.inBlock, Exit.then])
    obtain ⟨w', e, hp⟩ := (HSK.out (by simp)).out
    subst e
    first
      | exact Lib.hid hp
      | exact hN _ _ _ _ _ _ _ _ _ _ _ _ _ _ _ _ _ _ _ _ _ _ _ _ _ _ _ _ _ _ _ _ _ _ _ _ (Lib.hid hp)
  · rcases fb with _ | vb
    · dsimp only [Option.getD, Option.isSome] at hla hlb
      go_wp2_with fail
      (try simp only [Exit.inBlock, Exit.then])
      obtain ⟨w', e, hp⟩ := (HSK.out (by simp)).out
      subst e
      first
      | exact Lib.hid hp
      | exact hN _ _ _ _ _ _ _ _ _ _ _ _ _ _ _ _ _ _ _ _ _ _ _ _ _ _ _ _ _ _ _ _ _ _ _ _ (Lib.hid hp)
    · dsimp only [Option.getD, Option.isSome] at hla hlb
      clear HSK
      have y0 := HCA.out.frozen 0
      have y1 := HCA.out.frozen 1
      obtain ⟨W2, hW2⟩ : ∃ z, z = (W1.setCell ⟨ca, 0, none⟩ (.int .i64 va)).setCell ⟨ca, 1, none⟩ (.int .i64 vb) := ⟨_, rfl⟩
      have HC2 : Hid (Bk W2 ca 131 #[.int .i64 va, .int .i64 vb, .int .i64 ct.id, .int .i64 ct.px, .int .i64 ct.py, .int .i64 ct.nx, .int .i64 ct.ny, .int .i64 ct.dp, .int .i64 ct.ps, .int .i64 ct.sl]) := Lib.hid (by rw [hW2]; simpa using (HCA.out.set_ 0 (.int .i64 va)).set_ 1 (.int .i64 vb))
      have HNS : Hid (ca ≠ sA) := Lib.hid (Bk.ne_ HCA.out HS1.out (by decide))
      have HO2 : Hid (W2.ownsRow base 131 10 (.slice kA kn kc) kn (ctCs D)) := Lib.hid (by rw [hW2]; exact own_farB (own_farB HO1.out HNE.out) HNE.out)
      have HZ2 : Hid (Kz [131, 115] W1 W2) := Lib.hid (by rw [hW2]; exact (Kz.refl.set HCA.out (by simp) 0 _).set (HCA.out.set_ 0 (.int .i64 va)) (by simp) 1 _)
      have HX2 : Hid (Kx 0 [131] W1 W2) := Lib.hid (by rw [hW2]; exact ((Kx.refl (B := 0)).set HCA.out (Nat.zero_le _) (by simp) 0 _).set (HCA.out.set_ 0 (.int .i64 va)) (Nat.zero_le _) (by simp) 1 _)
      have HS2 := Lib.hid (HX2.out.bk HS1.out (by decide))
      have HB2 : Hid (Below base W1 W2) := Lib.hid (by rw [hW2]; exact ((Below.refl _ _).setCell (p := ⟨ca, 0, none⟩) HSZ.out.2 _).setCell (p := ⟨ca, 1, none⟩) HSZ.out.2 _)
      go_upto_region 27 with fail
      rw [← hW2]
      clear hW2 i0 i1 i2 i3 i4 i5 i6 i7 i8 i9 y0 y1 hla hlb
      have j0 : W2.cell? ⟨ca, 0, none⟩ = some (.int .i64 va) := HC2.out.cell 0
      have j1 : W2.cell? ⟨ca, 1, none⟩ = some (.int .i64 vb) := HC2.out.cell 1
      have j2 : W2.cell? ⟨ca, 2, none⟩ = some (.int .i64 ct.id) := HC2.out.cell 2
      have j3 : W2.cell? ⟨ca, 3, none⟩ = some (.int .i64 ct.px) := HC2.out.cell 3
      have j4 : W2.cell? ⟨ca, 4, none⟩ = some (.int .i64 ct.py) := HC2.out.cell 4
      have j5 : W2.cell? ⟨ca, 5, none⟩ = some (.int .i64 ct.nx) := HC2.out.cell 5
      have j6 : W2.cell? ⟨ca, 6, none⟩ = some (.int .i64 ct.ny) := HC2.out.cell 6
      have j7 : W2.cell? ⟨ca, 7, none⟩ = some (.int .i64 ct.dp) := HC2.out.cell 7
      have j8 : W2.cell? ⟨ca, 8, none⟩ = some (.int .i64 ct.ps) := HC2.out.cell 8
      have j9 : W2.cell? ⟨ca, 9, none⟩ = some (.int .i64 ct.sl) := HC2.out.cell 9
      have s2 : W2.cell? ⟨sA, 2, none⟩ = some (.slice kA kn kc) := HS2.out.cell 2
      go_wp2_with
        (at_builtin
         go_must (refine wpList_append_one _ rfl (.tmp 113) (.tmp 115) 76 rfl base 131 iC (.agg #[.int .i64 0, .int .i64 0, .int .i64 0, .int .i64 0, .int .i64 0, .int .i64 0, .int .i64 0, .int .i64 0, .int .i64 0, .int .i64 0]) 10 80 Try.underlying76 hiC hC0 hC1 hC2 rfl (by decide) (.slice kA kn kc) kn (ctCs D) rfl (HO2.out.alloc _) W2.heap.size 1 131 #[.int .i64 va, .int .i64 vb, .int .i64 ct.id, .int .i64 ct.px, .int .i64 ct.py, .int .i64 ct.nx, .int .i64 ct.ny, .int .i64 ct.dp, .int .i64 ct.ps, .int .i64 ct.sl] rfl (Bk.new W2 _ _) rfl ?c1 (kn + 1) rfl ?c2 ?c3 ?c4 ?_)
         case c1 => simp [Value.oneCell']
         case c2 => unfold maxLen; omega
         case c3 => omega
         case c4 => (have h1 := HB2.out.size; have h2 := HSZ.out.1; simp; omega)
         intro g8 c8 w8 hown8 hg8 hat8
         have HZ8 : Hid (Kz [131] W2 w8) := Lib.hid ((Kz.refl.alloc _).grown (HO2.out.alloc _) hg8 (by simp))
         have HB8 : Hid (Below base W2 w8) := Lib.hid (((Below.refl _ _).alloc (Nat.le_trans HSZ.out.1 HB2.out.size) _).trans (grown_below (HO2.out.alloc _) hg8 (by have h1 := HB2.out.size; have h2 := HSZ.out.1; simp; omega)))
         have HO8 : Hid (w8.ownsRow base 131 10 (.slice (some ⟨g8, 0, none⟩) (kn + 1) c8) (kn + 1) (ctCs (D ++ ctF1 f ct))) := Lib.hid (by
           have e : ctF1 f ct = [{ ct with a := va, b := vb }] := by
             unfold ctF1
             rw [← HF.out.1, ← HF.out.2]
           rw [e, ctCs_app]
           exact hown8)
         have HK8 := Lib.hid (HZ8.out.kx.bk HS2.out (by decide))
         have s8 : w8.cell? ⟨sA, 2, none⟩ = some (.slice kA kn kc) := HK8.out.cell 2
         have t8 : w8.frozen? ⟨sA, 2, none⟩ = false := HK8.out.frozen 2
         clear hown8 hg8 hat8 s2 j0 j1 j2 j3 j4 j5 j6 j7 j8 j9)
      (try simp only [Exit.inBlock, Exit.then])
      have HR : Hid ((∃ kA' kn' kc', Bk (w8.setCell ⟨sA, 2, none⟩ (.slice (some ⟨g8, 0, none⟩) (kn + 1) c8)) sA 115 #[V0, .slice none 0 0, .slice kA' kn' kc', V1, V2, V3] ∧ (w8.setCell ⟨sA, 2, none⟩ (.slice (some ⟨g8, 0, none⟩) (kn + 1) c8)).ownsRow base 131 10 (.slice kA' kn' kc') kn' (ctCs (D ++ ctF1 f ct)) ∧ kn' ≤ kn + 1) ∧ Kz [131, 115] w0 (w8.setCell ⟨sA, 2, none⟩ (.slice (some ⟨g8, 0, none⟩) (kn + 1) c8)) ∧ Below base w0 (w8.setCell ⟨sA, 2, none⟩ (.slice (some ⟨g8, 0, none⟩) (kn + 1) c8)) ∧ ∀ g cs, g ≠ sA → Bk w0 g 115 cs → Bk (w8.setCell ⟨sA, 2, none⟩ (.slice (some ⟨g8, 0, none⟩) (kn + 1) c8)) g 115 cs) := Lib.hid (by
        refine ⟨⟨some ⟨g8, 0, none⟩, kn + 1, c8, by simpa using HK8.out.set_ 2 (.slice (some ⟨g8, 0, none⟩) (kn + 1) c8), ?_, by omega⟩, ?_, ?_, ?_⟩
        · exact ((Kx.refl (B := 0) (F := [115])).set HK8.out (Nat.zero_le _) (by simp) 2 _).own HO8.out (by decide)
        · exact ((HB1.out.1.trans HZ2.out).trans (HZ8.out.mono (by simp))).set HK8.out (by simp) 2 _
        · exact ((HB1.out.2.1.trans HB2.out).trans HB8.out).setCell (p := ⟨sA, 2, none⟩) hsA _
        · intro g cs hg h
          exact (HZ8.out.kx.bk (HX2.out.bk (HB1.out.2.2 g cs hg h) (by decide)) (by decide)).far (p := ⟨sA, 2, none⟩) hg _)
      first
        | exact HR
        | exact hN _ _ _ _ _ _ _ _ _ _ _ _ _ _ _ _ _ _ _ _ _ _ _ _ _ _ _ _ _ _ _ _ _ _ _ _ HR
/-! ### Eh -/
/-- A contact between bodies that there are. -/
def conOk (el : List (Int × Int)) (c : Ct) : Bool := decide (0 ≤ c.a) && decide (c.a < el.length) && decide (0 ≤ c.b) && decide (c.b < el.length)
/-- A contact, its bodies named by their entities. -/
def conN (el : List (Int × Int)) (c : Ct) : Ct := { c with a := (el.getD c.a.toNat (0, 0)).1, b := (el.getD c.b.toNat (0, 0)).1 }
noncomputable def bwCon : Code := (Try.f66.body.bind (blkN 3)).getD .skip
set_option maxHeartbeats 16000000 in
theorem bwCon_any {x0 x1 x3 x4 x5 x7 x8 x9 x10 x11 x12 x13 x14 x15 x16 x17 x19 x20 x21 x22 x23 x24 x25 x26 x27 x28 x29 x30 x31 x32 x33 x34 x35 x36 x37 x38 x39 x40 x41 x42 x43 x44 x45 x46 x47 x48 x49 x50 x51 x52 x53 x54 x55 x56 x57 x58 x59 x60 x61 x62 x63 x64 x65 x66 x67 x68 x69 x70 x71 x72 x73 x74 x75 x76 x77 x78 x79 x80 x81 x82 x83 x84 x85 x86 x87 x88 x89 x90 x91 x92 x93 x94 x95 x96 x97 x98 x99 x100 x101 x102 x103 x104 x105 x106 x107 x108 x109 x110 x111 x112 x113 x114 x115 x116 x117 x118 x119 x120 x121 x122 x123 x125 x127 x128 x129 x130 x131 x132 x133 x134 x135 x136 x137 x138 x139 x140 x141 x142 x143 x144 x145 x146 x147 x148 x149 x150 x151 x152 x153 x154 x155 x156 x157 x158 x159 x160 x161 x162 x163 x164 x165 x166 x167 x168 x169 x170 x171 x172 x173 : Value} {Q : Exit → Act → World → Prop} {w0 : World} {B base j cn cc kn kc en ec rA : Nat} {eA cA kA : Option Addr} {el : List (Int × Int)} {cl D : List Ct} {ct : Ct}
    (hrd : Rd w0 B 10 cA cn (ctCs cl)) (hjn : j < cn) (_hcap : cn ≤ cc) (_hcap2 : cc ≤ 9223372036854775807) (hj : cl[j]? = some ct)
    (hel : Rd w0 B 2 eA en (enCs el)) (hen : en = el.length) (_hec : en ≤ ec) (_hec2 : ec ≤ 9223372036854775807)
    (hr : Bk w0 rA 52 #[.slice none 0 0, .slice none 0 0, .slice none 0 0]) (hra : base ≤ rA) (hO : w0.ownsRow base 131 10 (.slice kA kn kc) kn (ctCs D)) (hkn : (kn + 1) * 80 ≤ 140737488355328) (hbase : base ≤ w0.heap.size) (hB : B ≤ w0.heap.size)
    (hN : ∀ (y20 y128 y129 y130 y131 y132 y133 y134 y135 y136 y137 y138 y139 y140 y141 y142 y143 y144 y145 y146 y147 y148 y149 y150 y151 y152 y153 y154 y155 y156 y157 y158 y159 y160 y161 y162 y163 y164 y165 y166 y167 y168 y169 y170 : Value) (gc c' : Nat) (w' : World), Hid (conOk el ct = true ∧ w'.ownsRow base 131 10 (.slice (some ⟨gc, 0, none⟩) (kn + 1) c') (kn + 1) (ctCs (D ++ [conN el ct])) ∧ Kx 0 [131] w0 w' ∧ Below base w0 w') → Q .normal ⟨#[x0, x1, .slice eA en ec, x3, x4, x5, .pointer (some ⟨rA, 0, none⟩), x7, x8, x9, x10, x11, x12, x13, x14, x15, x16, x17, .slice (some ⟨gc, 0, none⟩) (kn + 1) c', x19, y20, x21, x22, x23, x24, x25, x26, x27, x28, x29, x30, x31, x32, x33, x34, x35, x36, x37, x38, x39, x40, x41, x42, x43, x44, x45, x46, x47, x48, x49, x50, x51, x52, x53, x54, x55, x56, x57, x58, x59, x60, x61, x62, x63, x64, x65, x66, x67, x68, x69, x70, x71, x72, x73, x74, x75, x76, x77, x78, x79, x80, x81, x82, x83, x84, x85, x86, x87, x88, x89, x90, x91, x92, x93, x94, x95, x96, x97, x98, x99, x100, x101, x102, x103, x104, x105, x106, x107, x108, x109, x110, x111, x112, x113, x114, x115, x116, x117, x118, x119, x120, x121, x122, x123, .slice cA cn cc, x125, .int .i64 (j : Int), x127, y128, y129, y130, y131, y132, y133, y134, y135, y136, y137, y138, y139, y140, y141, y142, y143, y144, y145, y146, y147, y148, y149, y150, y151, y152, y153, y154, y155, y156, y157, y158, y159, y160, y161, y162, y163, y164, y165, y166, y167, y168, y169, y170, x171, x172, x173], []⟩ w')
    (hE : ∀ (y20 y128 y129 y130 y131 y132 y133 y134 y135 y136 y137 y138 y139 y140 y141 y142 y143 y144 y145 y146 y147 y148 y149 y150 y151 y152 y153 y154 y155 y156 y157 y158 y159 y160 y161 y162 y163 y164 y165 y166 y167 y168 y169 y170 : Value) (w' : World), Hid (conOk el ct = false ∧ Bk w' rA 52 #[.slice none 0 0, .slice none 0 0, .slice none 0 0] ∧ Below base w0 w') → Q .ret ⟨#[x0, x1, .slice eA en ec, x3, x4, x5, .pointer (some ⟨rA, 0, none⟩), .slice none 0 0, .int .i64 1, x9, x10, x11, x12, x13, x14, x15, x16, x17, .slice kA kn kc, x19, y20, x21, x22, x23, x24, x25, x26, x27, x28, x29, x30, x31, x32, x33, x34, x35, x36, x37, x38, x39, x40, x41, x42, x43, x44, x45, x46, x47, x48, x49, x50, x51, x52, x53, x54, x55, x56, x57, x58, x59, x60, x61, x62, x63, x64, x65, x66, x67, x68, x69, x70, x71, x72, x73, x74, x75, x76, x77, x78, x79, x80, x81, x82, x83, x84, x85, x86, x87, x88, x89, x90, x91, x92, x93, x94, x95, x96, x97, x98, x99, x100, x101, x102, x103, x104, x105, x106, x107, x108, x109, x110, x111, x112, x113, x114, x115, x116, x117, x118, x119, x120, x121, x122, x123, .slice cA cn cc, x125, .int .i64 (j : Int), x127, y128, y129, y130, y131, y132, y133, y134, y135, y136, y137, y138, y139, y140, y141, y142, y143, y144, y145, y146, y147, y148, y149, y150, y151, y152, y153, y154, y155, y156, y157, y158, y159, y160, y161, y162, y163, y164, y165, y166, y167, y168, y169, y170, x171, x172, x173], []⟩ w') :
    Code.wp Try.prog bwCon Q ⟨#[x0, x1, .slice eA en ec, x3, x4, x5, .pointer (some ⟨rA, 0, none⟩), x7, x8, x9, x10, x11, x12, x13, x14, x15, x16, x17, .slice kA kn kc, x19, x20, x21, x22, x23, x24, x25, x26, x27, x28, x29, x30, x31, x32, x33, x34, x35, x36, x37, x38, x39, x40, x41, x42, x43, x44, x45, x46, x47, x48, x49, x50, x51, x52, x53, x54, x55, x56, x57, x58, x59, x60, x61, x62, x63, x64, x65, x66, x67, x68, x69, x70, x71, x72, x73, x74, x75, x76, x77, x78, x79, x80, x81, x82, x83, x84, x85, x86, x87, x88, x89, x90, x91, x92, x93, x94, x95, x96, x97, x98, x99, x100, x101, x102, x103, x104, x105, x106, x107, x108, x109, x110, x111, x112, x113, x114, x115, x116, x117, x118, x119, x120, x121, x122, x123, .slice cA cn cc, x125, .int .i64 (j : Int), x127, x128, x129, x130, x131, x132, x133, x134, x135, x136, x137, x138, x139, x140, x141, x142, x143, x144, x145, x146, x147, x148, x149, x150, x151, x152, x153, x154, x155, x156, x157, x158, x159, x160, x161, x162, x163, x164, x165, x166, x167, x168, x169, x170, x171, x172, x173], []⟩ w0 := by
  conv => arg 2; whnf
  obtain ⟨iC, hiC, hC0, hC1, hC2⟩ := info_parts T.info131
  obtain ⟨bi, oi, hcA, hbi, q0, q1, q2, q3, q4, q5, q6, q7, q8, q9⟩ := Rd.ct hrd hjn hj
  subst hcA
  have hjz : (j : Int) < cn := by omega
  have hjz0 : (0 : Int) ≤ j := by omega
  obtain ⟨ca, hca⟩ : ∃ z, z = w0.heap.size := ⟨_, rfl⟩
  obtain ⟨W1, hW1⟩ : ∃ z, z = w0.alloc (.cells #[.int .i64 ct.a, .int .i64 ct.b, .int .i64 ct.id, .int .i64 ct.px, .int .i64 ct.py, .int .i64 ct.nx, .int .i64 ct.ny, .int .i64 ct.dp, .int .i64 ct.ps, .int .i64 ct.sl] 131) := ⟨_, rfl⟩
  have hb1 : Below w0.heap.size w0 W1 := by rw [hW1]; exact (Below.refl _ _).alloc (Nat.le_refl _) _
  have HCA : Hid (Bk W1 ca 131 #[.int .i64 ct.a, .int .i64 ct.b, .int .i64 ct.id, .int .i64 ct.px, .int .i64 ct.py, .int .i64 ct.nx, .int .i64 ct.ny, .int .i64 ct.dp, .int .i64 ct.ps, .int .i64 ct.sl]) := Lib.hid (by rw [hW1, hca]; exact Bk.new _ _ _)
  have HO1 : Hid (W1.ownsRow base 131 10 (.slice kA kn kc) kn (ctCs D)) := Lib.hid ((Kx.of_below (B := 0) (F := []) hb1).own hO (by simp))
  have HNE : Hid ((Value.slice kA kn kc).ownBlock ≠ some ca) := Lib.hid (by
    intro e
    have := (hO.lt ca e).2
    omega)
  have HR1 : Hid (Bk W1 rA 52 #[.slice none 0 0, .slice none 0 0, .slice none 0 0]) := Lib.hid (hr.below hb1 hr.lt)
  have HEL : Hid (Rd W1 B 2 eA en (enCs el) ∧ en = el.length ∧ B ≤ ca) := Lib.hid ⟨hel.below (hb1.mono hB), hen, by rw [hca]; exact hB⟩
  have HB1 : Hid (Kx 0 [131] w0 W1 ∧ Below base w0 W1) := Lib.hid ⟨Kx.of_below hb1, hb1.mono hbase⟩
  have HSZ : Hid (base ≤ W1.heap.size ∧ base ≤ ca) := Lib.hid ⟨Nat.le_trans hbase hb1.size, by rw [hca]; exact hbase⟩
  have HKN := Lib.hid hkn
  have HBC : Hid (B ≤ ca) := Lib.hid (by rw [hca]; exact hB)
  clear hrd hj hO hb1 hbi hel hen hr hB
  go_upto_region 27 with fail
  rw [← hW1, ← hca]
  clear q0 q1 q2 q3 q4 q5 q6 q7 q8 q9 hW1 hca
  have i0 : W1.cell? ⟨ca, 0, none⟩ = some (.int .i64 ct.a) := HCA.out.cell 0
  have i1 : W1.cell? ⟨ca, 1, none⟩ = some (.int .i64 ct.b) := HCA.out.cell 1
  by_cases h1 : ct.a < 0
  · have t0 : decide (ct.a < 0) = true := decide_eq_true h1
    have HBAD : Hid (conOk el ct = false) := Lib.hid (by unfold conOk; simp; omega)
    clear hN
    have z0 : W1.cell? ⟨rA, 0, none⟩ = some (.slice none 0 0) := HR1.out.cell 0
    have z1 : W1.cell? ⟨rA, 1, none⟩ = some (.slice none 0 0) := HR1.out.cell 1
    have z2 : W1.cell? ⟨rA, 2, none⟩ = some (.slice none 0 0) := HR1.out.cell 2
    have y0 := HR1.out.frozen 0
    have y1 := HR1.out.frozen 1
    have y2 := HR1.out.frozen 2
    go_wp2_with fail
    (try simp only [Exit.inBlock, Exit.then])
    have HF : Hid (conOk el ct = false ∧ Bk (((W1.setCell ⟨rA, 0, none⟩ (.slice none 0 0)).setCell ⟨rA, 1, none⟩ (.slice none 0 0)).setCell ⟨rA, 2, none⟩ (.slice none 0 0)) rA 52 #[.slice none 0 0, .slice none 0 0, .slice none 0 0] ∧ Below base w0 (((W1.setCell ⟨rA, 0, none⟩ (.slice none 0 0)).setCell ⟨rA, 1, none⟩ (.slice none 0 0)).setCell ⟨rA, 2, none⟩ (.slice none 0 0))) := Lib.hid (by
      refine ⟨HBAD.out, set3_bk HR1.out _ _ _, ?_⟩
      have hbx := HB1.out.2
      (repeat' first | with_reducible exact hbx | with_reducible refine Below.setCell ?_ hra _))
    first
      | exact HF
      | exact hE _ _ _ _ _ _ _ _ _ _ _ _ _ _ _ _ _ _ _ _ _ _ _ _ _ _ _ _ _ _ _ _ _ _ _ _ _ _ _ _ _ _ _ _ _ HF
  · have t0 : decide (ct.a < 0) = false := decide_eq_false h1
    by_cases h2 : (en : Int) ≤ ct.a
    · have t1 : decide (ct.a ≥ (en : Int)) = true := decide_eq_true h2
      have HBAD : Hid (conOk el ct = false) := Lib.hid (by unfold conOk; have hl := HEL.out.2.1; simp; omega)
      clear hN
      have z0 : W1.cell? ⟨rA, 0, none⟩ = some (.slice none 0 0) := HR1.out.cell 0
      have z1 : W1.cell? ⟨rA, 1, none⟩ = some (.slice none 0 0) := HR1.out.cell 1
      have z2 : W1.cell? ⟨rA, 2, none⟩ = some (.slice none 0 0) := HR1.out.cell 2
      have y0 := HR1.out.frozen 0
      have y1 := HR1.out.frozen 1
      have y2 := HR1.out.frozen 2
      go_wp2_with fail
      (try simp only [Exit.inBlock, Exit.then])
      have HF : Hid (conOk el ct = false ∧ Bk (((W1.setCell ⟨rA, 0, none⟩ (.slice none 0 0)).setCell ⟨rA, 1, none⟩ (.slice none 0 0)).setCell ⟨rA, 2, none⟩ (.slice none 0 0)) rA 52 #[.slice none 0 0, .slice none 0 0, .slice none 0 0] ∧ Below base w0 (((W1.setCell ⟨rA, 0, none⟩ (.slice none 0 0)).setCell ⟨rA, 1, none⟩ (.slice none 0 0)).setCell ⟨rA, 2, none⟩ (.slice none 0 0))) := Lib.hid (by
        refine ⟨HBAD.out, set3_bk HR1.out _ _ _, ?_⟩
        have hbx := HB1.out.2
        (repeat' first | with_reducible exact hbx | with_reducible refine Below.setCell ?_ hra _))
      first
        | exact HF
        | exact hE _ _ _ _ _ _ _ _ _ _ _ _ _ _ _ _ _ _ _ _ _ _ _ _ _ _ _ _ _ _ _ _ _ _ _ _ _ _ _ _ _ _ _ _ _ HF
    · have t1 : decide (ct.a ≥ (en : Int)) = false := decide_eq_false h2
      by_cases h3 : ct.b < 0
      · have t2 : decide (ct.b < 0) = true := decide_eq_true h3
        have HBAD : Hid (conOk el ct = false) := Lib.hid (by unfold conOk; simp; omega)
        clear hN
        have z0 : W1.cell? ⟨rA, 0, none⟩ = some (.slice none 0 0) := HR1.out.cell 0
        have z1 : W1.cell? ⟨rA, 1, none⟩ = some (.slice none 0 0) := HR1.out.cell 1
        have z2 : W1.cell? ⟨rA, 2, none⟩ = some (.slice none 0 0) := HR1.out.cell 2
        have y0 := HR1.out.frozen 0
        have y1 := HR1.out.frozen 1
        have y2 := HR1.out.frozen 2
        go_wp2_with fail
        (try simp only [Exit.inBlock, Exit.then])
        have HF : Hid (conOk el ct = false ∧ Bk (((W1.setCell ⟨rA, 0, none⟩ (.slice none 0 0)).setCell ⟨rA, 1, none⟩ (.slice none 0 0)).setCell ⟨rA, 2, none⟩ (.slice none 0 0)) rA 52 #[.slice none 0 0, .slice none 0 0, .slice none 0 0] ∧ Below base w0 (((W1.setCell ⟨rA, 0, none⟩ (.slice none 0 0)).setCell ⟨rA, 1, none⟩ (.slice none 0 0)).setCell ⟨rA, 2, none⟩ (.slice none 0 0))) := Lib.hid (by
          refine ⟨HBAD.out, set3_bk HR1.out _ _ _, ?_⟩
          have hbx := HB1.out.2
          (repeat' first | with_reducible exact hbx | with_reducible refine Below.setCell ?_ hra _))
        first
          | exact HF
          | exact hE _ _ _ _ _ _ _ _ _ _ _ _ _ _ _ _ _ _ _ _ _ _ _ _ _ _ _ _ _ _ _ _ _ _ _ _ _ _ _ _ _ _ _ _ _ HF
      · have t2 : decide (ct.b < 0) = false := decide_eq_false h3
        by_cases h4 : (en : Int) ≤ ct.b
        · have t3 : decide (ct.b ≥ (en : Int)) = true := decide_eq_true h4
          have HBAD : Hid (conOk el ct = false) := Lib.hid (by unfold conOk; have hl := HEL.out.2.1; simp; omega)
          clear hN
          have z0 : W1.cell? ⟨rA, 0, none⟩ = some (.slice none 0 0) := HR1.out.cell 0
          have z1 : W1.cell? ⟨rA, 1, none⟩ = some (.slice none 0 0) := HR1.out.cell 1
          have z2 : W1.cell? ⟨rA, 2, none⟩ = some (.slice none 0 0) := HR1.out.cell 2
          have y0 := HR1.out.frozen 0
          have y1 := HR1.out.frozen 1
          have y2 := HR1.out.frozen 2
          go_wp2_with fail
          (try simp only [Exit.inBlock, Exit.then])
          have HF : Hid (conOk el ct = false ∧ Bk (((W1.setCell ⟨rA, 0, none⟩ (.slice none 0 0)).setCell ⟨rA, 1, none⟩ (.slice none 0 0)).setCell ⟨rA, 2, none⟩ (.slice none 0 0)) rA 52 #[.slice none 0 0, .slice none 0 0, .slice none 0 0] ∧ Below base w0 (((W1.setCell ⟨rA, 0, none⟩ (.slice none 0 0)).setCell ⟨rA, 1, none⟩ (.slice none 0 0)).setCell ⟨rA, 2, none⟩ (.slice none 0 0))) := Lib.hid (by
            refine ⟨HBAD.out, set3_bk HR1.out _ _ _, ?_⟩
            have hbx := HB1.out.2
            (repeat' first | with_reducible exact hbx | with_reducible refine Below.setCell ?_ hra _))
          first
            | exact HF
            | exact hE _ _ _ _ _ _ _ _ _ _ _ _ _ _ _ _ _ _ _ _ _ _ _ _ _ _ _ _ _ _ _ _ _ _ _ _ _ _ _ _ _ _ _ _ _ HF
        · have t3 : decide (ct.b ≥ (en : Int)) = false := decide_eq_false h4
          clear hE
          obtain ⟨na, hna⟩ : ∃ n : Nat, ct.a = n := ⟨ct.a.toNat, by omega⟩
          obtain ⟨nb, hnb⟩ : ∃ n : Nat, ct.b = n := ⟨ct.b.toNat, by omega⟩
          have hal : na < en := by omega
          have hbl : nb < en := by omega
          obtain ⟨e1, he1⟩ : ∃ e, el[na]? = some e := ⟨_, List.getElem?_eq_getElem (by rw [← HEL.out.2.1]; exact hal)⟩
          obtain ⟨e2, he2⟩ : ∃ e, el[nb]? = some e := ⟨_, List.getElem?_eq_getElem (by rw [← HEL.out.2.1]; exact hbl)⟩
          obtain ⟨eb, eo, heA, heb, p0, p1⟩ := Rd.enW HEL.out.1 hal he1
          obtain ⟨eb', eo', heA', heb', p0', p1'⟩ := Rd.enW HEL.out.1 hbl he2
          have heq : eb' = eb ∧ eo' = eo := by
            rw [heA] at heA'
            injection heA' with h
            injection h with h h'
            exact ⟨h.symm, h'.symm⟩
          obtain ⟨rfl, rfl⟩ := heq
          subst heA
          have HOK : Hid (conOk el ct = true ∧ conN el ct = { ct with a := e1.1, b := e2.1 }) := Lib.hid (by
            have hl := HEL.out.2.1
            constructor
            · unfold conOk
              simp only [Bool.and_eq_true, decide_eq_true_eq]
              omega
            · unfold conN
              rw [hna, hnb, Int.toNat_natCast, Int.toNat_natCast, List.getD_eq_getElem?_getD, List.getD_eq_getElem?_getD, he1, he2]
              rfl)
          have hnaz : (na : Int) < en := by omega
          have hnaz0 : (0 : Int) ≤ na := by omega
          have hnbz : (nb : Int) < en := by omega
          have hnbz0 : (0 : Int) ≤ nb := by omega
          have HP : Hid (W1.cell? ⟨eb', eo' + na * 2, none⟩ = some (.int .i64 e1.1) ∧ W1.cell? ⟨eb', eo' + nb * 2, none⟩ = some (.int .i64 e2.1)) := Lib.hid ⟨p0, p0'⟩
          have HCE : Hid (ca ≠ eb') := Lib.hid (by have h1 := HBC.out; omega)
          clear p0 p1 p0' p1' he1 he2 heA' heb heb'
          go_upto_region 29 with fail
          clear t0 t1 t2 t3 h1 h2 h3 h4
          obtain ⟨u0, hu0⟩ : ∃ z, z = W1.drew := ⟨_, rfl⟩
          have HCU : Hid (Bk u0 ca 131 #[.int .i64 ct.a, .int .i64 ct.b, .int .i64 ct.id, .int .i64 ct.px, .int .i64 ct.py, .int .i64 ct.nx, .int .i64 ct.ny, .int .i64 ct.dp, .int .i64 ct.ps, .int .i64 ct.sl]) := Lib.hid (by rw [hu0]; exact HCA.out)
          have HTT : Hid (u0.cell? ⟨eb', eo' + na * 2, none⟩ = some (.int .i64 e1.1) ∧ u0.cell? ⟨eb', eo' + nb * 2, none⟩ = some (.int .i64 e2.1)) := Lib.hid (by rw [hu0]; exact HP.out)
          have HSS : Hid (u0.cell? ⟨ca, 0, none⟩ = some (.int .i64 (na : Int)) ∧ u0.cell? ⟨ca, 1, none⟩ = some (.int .i64 (nb : Int))) := Lib.hid ⟨by rw [← hna]; exact HCU.out.cell 0, by rw [← hnb]; exact HCU.out.cell 1⟩
          obtain ⟨W2, hW2⟩ : ∃ z, z = (u0.setCell ⟨ca, 0, none⟩ (.int .i64 e1.1)).setCell ⟨ca, 1, none⟩ (.int .i64 e2.1) := ⟨_, rfl⟩
          have HC2 : Hid (Bk W2 ca 131 #[.int .i64 e1.1, .int .i64 e2.1, .int .i64 ct.id, .int .i64 ct.px, .int .i64 ct.py, .int .i64 ct.nx, .int .i64 ct.ny, .int .i64 ct.dp, .int .i64 ct.ps, .int .i64 ct.sl]) := Lib.hid (by rw [hW2]; simpa using (HCU.out.set_ 0 (.int .i64 e1.1)).set_ 1 (.int .i64 e2.1))
          have HO2 : Hid (W2.ownsRow base 131 10 (.slice kA kn kc) kn (ctCs D)) := Lib.hid (by rw [hW2, hu0]; exact own_farB (own_farB ((Kx.refl (B := 0) (F := [])).drew.own HO1.out (by simp)) HNE.out) HNE.out)
          have HB2 : Hid (Kx 0 [131] w0 W2 ∧ Below base w0 W2 ∧ base ≤ W2.heap.size) := Lib.hid (by
            have hk : Kx 0 [131] w0 W2 := by rw [hW2, hu0]; exact ((HB1.out.1.drew).set (hu0 ▸ HCU.out) (Nat.zero_le _) (by simp) 0 _).set ((hu0 ▸ HCU.out : Bk W1.drew ca 131 #[.int .i64 ct.a, .int .i64 ct.b, .int .i64 ct.id, .int .i64 ct.px, .int .i64 ct.py, .int .i64 ct.nx, .int .i64 ct.ny, .int .i64 ct.dp, .int .i64 ct.ps, .int .i64 ct.sl]).set_ 0 (.int .i64 e1.1)) (Nat.zero_le _) (by simp) 1 _
            refine ⟨hk, ?_, ?_⟩
            · rw [hW2, hu0]
              exact ((HB1.out.2.drew).setCell (p := ⟨ca, 0, none⟩) HSZ.out.2 _).setCell (p := ⟨ca, 1, none⟩) HSZ.out.2 _
            · rw [hW2, hu0]
              have h1 := HSZ.out.1
              simpa using h1)
          have HT1 : Hid ((u0.setCell ⟨ca, 0, none⟩ (.int .i64 e1.1)).cell? ⟨eb', eo' + na * 2, none⟩ = some (.int .i64 e1.1) ∧ (u0.setCell ⟨ca, 0, none⟩ (.int .i64 e1.1)).cell? ⟨eb', eo' + nb * 2, none⟩ = some (.int .i64 e2.1)) := Lib.hid ⟨(World.cell?_setCell_far _ _ _ _ (by exact HCE.out)).trans HTT.out.1, (World.cell?_setCell_far _ _ _ _ (by exact HCE.out)).trans HTT.out.2⟩
          have HT2 : Hid (W2.cell? ⟨eb', eo' + na * 2, none⟩ = some (.int .i64 e1.1) ∧ W2.cell? ⟨eb', eo' + nb * 2, none⟩ = some (.int .i64 e2.1)) := Lib.hid (by rw [hW2]; exact ⟨(World.cell?_setCell_far _ _ _ _ (by exact HCE.out)).trans HT1.out.1, (World.cell?_setCell_far _ _ _ _ (by exact HCE.out)).trans HT1.out.2⟩)
          (try refine wp_region_noPanic ?_)
          refine wp_region_M (S := fun wz => wz.cell? ⟨ca, 0, none⟩ = some (.int .i64 (na : Int)) ∧ wz.cell? ⟨ca, 1, none⟩ = some (.int .i64 (nb : Int))) (T := fun wz => wz.cell? ⟨eb', eo' + na * 2, none⟩ = some (.int .i64 e1.1) ∧ wz.cell? ⟨eb', eo' + nb * 2, none⟩ = some (.int .i64 e2.1)) (late := [13, 15]) (by kernel_rfl) ?_
          rw [← hu0]
          clear hu0 i0 i1 hna hnb
          refine wpAnyM_val (i := 0) (v := .slice (some ⟨eb', eo', none⟩) en ec) (d := some 153) rfl rfl (by kernel_rfl) (by kernel_rfl) (by kernel_rfl) (by kernel_rfl) (fun _ _ _ h => h) (Or.inl ⟨by rfl, fun w hS => by (obtain ⟨h0, h1⟩ := hS; go_simp)⟩) (fun _ => HSS.out) HTT.out ?_
          (try simp only [Act.put, List.setIfInBounds_toArray, List.set_cons_zero, List.set_cons_succ])
          refine wpAnyM_val (i := 1) (v := .pointer (some ⟨ca, 0, none⟩)) (d := some 154) rfl rfl (by kernel_rfl) (by kernel_rfl) (by kernel_rfl) (by kernel_rfl) (fun _ _ _ h => h) (Or.inl ⟨by rfl, fun w hS => by (obtain ⟨h0, h1⟩ := hS; go_simp)⟩) (fun _ => HSS.out) HTT.out ?_
          (try simp only [Act.put, List.setIfInBounds_toArray, List.set_cons_zero, List.set_cons_succ])
          refine wpAnyM_valS (i := 2) (v := .int .i64 (na : Int)) (d := some 155) rfl rfl (by kernel_rfl) (by kernel_rfl) (by kernel_rfl) (by kernel_rfl) (by kernel_rfl) (fun _ _ _ h => h) (Or.inl ⟨by rfl, fun w hS => by (obtain ⟨h0, h1⟩ := hS; go_simp)⟩) HSS.out HTT.out ?_
          (try simp only [Act.put, List.setIfInBounds_toArray, List.set_cons_zero, List.set_cons_succ])
          refine wpAnyM_val (i := 3) (v := .pointer (some ⟨eb', eo' + na * 2, none⟩)) (d := some 156) rfl rfl (by kernel_rfl) (by kernel_rfl) (by kernel_rfl) (by kernel_rfl) (fun _ _ _ h => h) (Or.inl ⟨by rfl, fun w hS => by (obtain ⟨h0, h1⟩ := hS; go_simp)⟩) (fun _ => HSS.out) HTT.out ?_
          (try simp only [Act.put, List.setIfInBounds_toArray, List.set_cons_zero, List.set_cons_succ])
          refine wpAnyM_val (i := 4) (v := .pointer (some ⟨eb', eo' + na * 2, none⟩)) (d := some 157) rfl rfl (by kernel_rfl) (by kernel_rfl) (by kernel_rfl) (by kernel_rfl) (fun _ _ _ h => h) (Or.inl ⟨by rfl, fun w hS => by (obtain ⟨h0, h1⟩ := hS; go_simp)⟩) (fun _ => HSS.out) HTT.out ?_
          (try simp only [Act.put, List.setIfInBounds_toArray, List.set_cons_zero, List.set_cons_succ])
          refine wpAnyM_val (i := 5) (v := .int .i64 e1.1) (d := some 158) rfl rfl (by kernel_rfl) (by kernel_rfl) (by kernel_rfl) (by kernel_rfl) (fun _ _ _ h => h) (Or.inl ⟨by rfl, fun w hS => by (obtain ⟨h0, h1⟩ := hS; go_simp)⟩) (fun _ => HSS.out) HTT.out ?_
          (try simp only [Act.put, List.setIfInBounds_toArray, List.set_cons_zero, List.set_cons_succ])
          refine wpAnyM_val (i := 6) (v := .slice (some ⟨eb', eo', none⟩) en ec) (d := some 159) rfl rfl (by kernel_rfl) (by kernel_rfl) (by kernel_rfl) (by kernel_rfl) (fun _ _ _ h => h) (Or.inl ⟨by rfl, fun w hS => by (obtain ⟨h0, h1⟩ := hS; go_simp)⟩) (fun _ => HSS.out) HTT.out ?_
          (try simp only [Act.put, List.setIfInBounds_toArray, List.set_cons_zero, List.set_cons_succ])
          refine wpAnyM_val (i := 7) (v := .pointer (some ⟨ca, 1, none⟩)) (d := some 160) rfl rfl (by kernel_rfl) (by kernel_rfl) (by kernel_rfl) (by kernel_rfl) (fun _ _ _ h => h) (Or.inl ⟨by rfl, fun w hS => by (obtain ⟨h0, h1⟩ := hS; go_simp)⟩) (fun _ => HSS.out) HTT.out ?_
          (try simp only [Act.put, List.setIfInBounds_toArray, List.set_cons_zero, List.set_cons_succ])
          refine wpAnyM_valS (i := 8) (v := .int .i64 (nb : Int)) (d := some 161) rfl rfl (by kernel_rfl) (by kernel_rfl) (by kernel_rfl) (by kernel_rfl) (by kernel_rfl) (fun _ _ _ h => h) (Or.inl ⟨by rfl, fun w hS => by (obtain ⟨h0, h1⟩ := hS; go_simp)⟩) HSS.out HTT.out ?_
          (try simp only [Act.put, List.setIfInBounds_toArray, List.set_cons_zero, List.set_cons_succ])
          refine wpAnyM_val (i := 9) (v := .pointer (some ⟨eb', eo' + nb * 2, none⟩)) (d := some 162) rfl rfl (by kernel_rfl) (by kernel_rfl) (by kernel_rfl) (by kernel_rfl) (fun _ _ _ h => h) (Or.inl ⟨by rfl, fun w hS => by (obtain ⟨h0, h1⟩ := hS; go_simp)⟩) (fun _ => HSS.out) HTT.out ?_
          (try simp only [Act.put, List.setIfInBounds_toArray, List.set_cons_zero, List.set_cons_succ])
          refine wpAnyM_val (i := 10) (v := .pointer (some ⟨eb', eo' + nb * 2, none⟩)) (d := some 163) rfl rfl (by kernel_rfl) (by kernel_rfl) (by kernel_rfl) (by kernel_rfl) (fun _ _ _ h => h) (Or.inl ⟨by rfl, fun w hS => by (obtain ⟨h0, h1⟩ := hS; go_simp)⟩) (fun _ => HSS.out) HTT.out ?_
          (try simp only [Act.put, List.setIfInBounds_toArray, List.set_cons_zero, List.set_cons_succ])
          refine wpAnyM_val (i := 11) (v := .int .i64 e2.1) (d := some 164) rfl rfl (by kernel_rfl) (by kernel_rfl) (by kernel_rfl) (by kernel_rfl) (fun _ _ _ h => h) (Or.inl ⟨by rfl, fun w hS => by (obtain ⟨h0, h1⟩ := hS; go_simp)⟩) (fun _ => HSS.out) HTT.out ?_
          (try simp only [Act.put, List.setIfInBounds_toArray, List.set_cons_zero, List.set_cons_succ])
          refine wpAnyM_val (i := 12) (v := .pointer (some ⟨ca, 0, none⟩)) (d := some 165) rfl rfl (by kernel_rfl) (by kernel_rfl) (by kernel_rfl) (by kernel_rfl) (fun _ _ _ h => h) (Or.inl ⟨by rfl, fun w hS => by (obtain ⟨h0, h1⟩ := hS; go_simp)⟩) (fun _ => HSS.out) HTT.out ?_
          (try simp only [Act.put, List.setIfInBounds_toArray, List.set_cons_zero, List.set_cons_succ])
          have x0 : u0.cell? ⟨ca, 0, none⟩ = some (.int .i64 (na : Int)) := HSS.out.1
          have x1 : u0.frozen? ⟨ca, 0, none⟩ = false := HCU.out.frozen 0
          refine wpAnyM_late (i := 13) rfl (by kernel_rfl) (by rfl) (by kernel_rfl) (by simp) ?_
          go_simp
          clear x0 x1
          first
            | refine And.intro HT1.out ?_
            | refine And.intro HTT.out ?_
          (try simp only [Act.put, List.setIfInBounds_toArray, List.set_cons_zero, List.set_cons_succ])
          refine wpAnyM_val (i := 14) (v := .pointer (some ⟨ca, 1, none⟩)) (d := some 166) rfl rfl (by kernel_rfl) (by kernel_rfl) (by kernel_rfl) (by kernel_rfl) (fun _ _ _ h => h) (Or.inl ⟨by rfl, fun w hS => by (obtain ⟨h0, h1⟩ := hS; go_simp)⟩) (fun h => absurd (h 13 (by simp)) (by simp)) HT1.out ?_
          (try simp only [Act.put, List.setIfInBounds_toArray, List.set_cons_zero, List.set_cons_succ])
          have x0 : (u0.setCell ⟨ca, 0, none⟩ (.int .i64 e1.1)).cell? ⟨ca, 1, none⟩ = some (.int .i64 (nb : Int)) := (World.cell?_setCell_other _ _ _ _ (by intro e; injection e with _ e; omega)).trans HSS.out.2
          have x1 : (u0.setCell ⟨ca, 0, none⟩ (.int .i64 e1.1)).frozen? ⟨ca, 1, none⟩ = false := (HCU.out.set_ 0 (.int .i64 e1.1)).frozen 1
          refine wpAnyM_late (i := 15) rfl (by kernel_rfl) (by rfl) (by kernel_rfl) (by simp) ?_
          go_simp
          clear x0 x1
          rw [← hW2]
          clear hW2
          first
            | refine And.intro HT2.out ?_
            | refine And.intro HT1.out ?_
          (try simp only [Act.put, List.setIfInBounds_toArray, List.set_cons_zero, List.set_cons_succ])
          refine wpAnyM_done (by kernel_rfl) ?_ _
          (try refine NoPanic.normal ?_)
          clear HCU HSS HTT HT1 HT2 HP HCA HO1 HR1 HEL
          have j0 : W2.cell? ⟨ca, 0, none⟩ = some (.int .i64 e1.1) := HC2.out.cell 0
          have j1 : W2.cell? ⟨ca, 1, none⟩ = some (.int .i64 e2.1) := HC2.out.cell 1
          have j2 : W2.cell? ⟨ca, 2, none⟩ = some (.int .i64 ct.id) := HC2.out.cell 2
          have j3 : W2.cell? ⟨ca, 3, none⟩ = some (.int .i64 ct.px) := HC2.out.cell 3
          have j4 : W2.cell? ⟨ca, 4, none⟩ = some (.int .i64 ct.py) := HC2.out.cell 4
          have j5 : W2.cell? ⟨ca, 5, none⟩ = some (.int .i64 ct.nx) := HC2.out.cell 5
          have j6 : W2.cell? ⟨ca, 6, none⟩ = some (.int .i64 ct.ny) := HC2.out.cell 6
          have j7 : W2.cell? ⟨ca, 7, none⟩ = some (.int .i64 ct.dp) := HC2.out.cell 7
          have j8 : W2.cell? ⟨ca, 8, none⟩ = some (.int .i64 ct.ps) := HC2.out.cell 8
          have j9 : W2.cell? ⟨ca, 9, none⟩ = some (.int .i64 ct.sl) := HC2.out.cell 9
          go_wp2_with
            (at_builtin
             go_must (refine wpList_append_one _ rfl (.tmp 167) (.tmp 169) 76 rfl base 131 iC (.agg #[.int .i64 0, .int .i64 0, .int .i64 0, .int .i64 0, .int .i64 0, .int .i64 0, .int .i64 0, .int .i64 0, .int .i64 0, .int .i64 0]) 10 80 Try.underlying76 hiC hC0 hC1 hC2 rfl (by decide) (.slice kA kn kc) kn (ctCs D) rfl (HO2.out.alloc _) W2.heap.size 1 131 #[.int .i64 e1.1, .int .i64 e2.1, .int .i64 ct.id, .int .i64 ct.px, .int .i64 ct.py, .int .i64 ct.nx, .int .i64 ct.ny, .int .i64 ct.dp, .int .i64 ct.ps, .int .i64 ct.sl] rfl (Bk.new W2 _ _) rfl ?c1 (kn + 1) rfl ?c2 ?c3 ?c4 ?_)
             case c1 => simp [Value.oneCell']
             case c2 => unfold maxLen; have h := HKN.out; omega
             case c3 => have h := HKN.out; omega
             case c4 => (have h1 := HB2.out.2.2; simp; omega)
             intro g8 c8 w8 hown8 hg8 hat8
             have HF : Hid (conOk el ct = true ∧ w8.ownsRow base 131 10 (.slice (some ⟨g8, 0, none⟩) (kn + 1) c8) (kn + 1) (ctCs (D ++ [conN el ct])) ∧ Kx 0 [131] w0 w8 ∧ Below base w0 w8) := Lib.hid (by
               refine ⟨HOK.out.1, ?_, ?_, ?_⟩
               · rw [HOK.out.2, ctCs_app]
                 exact hown8
               · exact HB2.out.1.trans ((Kz.refl.alloc _).grown (HO2.out.alloc _) hg8 (by simp)).kx
               · exact HB2.out.2.1.trans (((Below.refl _ _).alloc HB2.out.2.2 _).trans (grown_below (HO2.out.alloc _) hg8 (by have h1 := HB2.out.2.2; simp; omega))))
             clear hown8 hg8 hat8 j0 j1 j2 j3 j4 j5 j6 j7 j8 j9)
          (try simp only [Exit.inBlock, Exit.then])
          first
            | exact HF
            | exact hN _ _ _ _ _ _ _ _ _ _ _ _ _ _ _ _ _ _ _ _ _ _ _ _ _ _ _ _ _ _ _ _ _ _ _ _ _ _ _ _ _ _ _ _ _ _ _ HF
end Go.Proofs.Ytnidcmhfbkdioaa
