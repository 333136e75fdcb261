/-
  The third loop of prefab.build: the entities of a part, under its number. Conditions: what is read can be read.
-/
import Derived.Test.YtnidcmhfbkdioaaPh
namespace Go.Proofs.Ytnidcmhfbkdioaa
open Go.RowKit
set_option maxRecDepth 100000

def findB (n : Nat) : Code → Option Code
  | .seq (.seq (.region i o d) x) b => if i = n then some (.seq (.region i o d) x) else match findB n x with
    | some c => some c
    | none => findB n b
  | .seq a b => match findB n a with
    | some c => some c
    | none => findB n b
  | .block _ c => findB n c
  | .loop c => findB n c
  | .scope c => findB n c
  | .cond _ a b => match findB n a with
    | some c => some c
    | none => findB n b
  | _ => none
noncomputable def bdSub : Code := (Try.f100.body.bind (findB 16)).getD .skip
/-- An entity of a part, under the part's number. -/
def under (i : Nat) (b : Blt) : Blt := ((i : Int) :: b.1, b.2)
theorem Rd.btS {w : World} {base n c : Nat} {A : Option Addr} {l : List Bt} {k : Nat} {f : Bt} (h : w.ownsRow base 40 2 (.slice A n c) n (btCs l)) (hk : k < n) (hf : l[k]? = some f) :
    ∃ b o, A = some ⟨b, o, none⟩ ∧ b < w.heap.size ∧ w.cell? ⟨b, o + k * 2, none⟩ = some (.slice f.pA f.pn f.pc) ∧ w.cell? ⟨b, o + k * 2 + 1, none⟩ = some (.slice f.cA f.cn f.cc) := (Rd.of_own h).bt hk hf
theorem T.info40 : (Try.prog.info? 40).map (fun i => (i.zero, i.size, i.bytes)) = some (some (.agg #[.slice none 0 0, .slice none 0 0]), 2, 48) := by kernel_rfl
theorem T.info3P : (Try.prog.info? 3).map (fun i => (i.zero, i.size, i.bytes)) = some (some (.int .i64 0), 1, 8) := by kernel_rfl
/-- The third loop's state: what is built, and which of the old entities each one is made of. -/
structure SuI (w : World) (base : Nat) (i k m : Nat) (A3 : Option Addr) (c3 : Nat) (l sub l3 : List Bt) : Prop where
  own : w.ownsRow base 40 2 (.slice A3 (m + k) c3) (m + k) (btCs l3)
  len : l3.length = m + k
  p : l3.map Bt.p = l.map Bt.p ++ (sub.take k).map fun b => under i b.p
  ok : ∀ x ∈ l3, BtY w base x
  of_ : ∀ (j : Nat) (x : Bt), l3[j]? = some x → ∃ y, (l ++ sub)[j]? = some y ∧ x.cA = y.cA ∧ x.cn = y.cn ∧ x.cms = y.cms

set_option maxHeartbeats 6000000 in
theorem bdSub_any {x0 x1 x2 x3 x4 x5 x6 x7 x8 x9 x10 x11 x12 x15 x17 x18 x19 x20 x21 x22 x23 x24 x25 x26 x27 x28 x29 x30 x31 x32 x33 x34 x35 x36 x37 x38 x39 x40 x41 x42 x43 x44 x45 x46 x47 x48 x49 x50 x51 x52 x53 x54 x55 x56 x57 x58 x59 x60 x61 x62 x63 x64 x65 x66 x67 x68 x69 x70 x71 x72 x73 x74 x75 x76 x77 x78 x79 x80 x81 x82 x83 x84 x85 x86 x87 x88 x89 x90 x91 x92 x93 x94 x95 x96 x97 x98 x99 x100 x101 x102 x103 x104 x105 x106 x107 x108 x109 x110 : Value} {Q : Exit → Act → World → Prop} {w wr : World} {base i m c sn sc H : Nat} {A SA : Option Addr} {l sub : List Bt} (hw : base = w.heap.size) (hb : Below w.heap.size w wr) (hI : Hid (wr.ownsRow base 40 2 (.slice A m c) m (btCs l) ∧ m = l.length)) (hS : Hid (wr.ownsRow H 40 2 (.slice SA sn sc) sn (btCs sub) ∧ sn = sub.length)) (hne : Hid (∀ q, (Value.slice SA sn sc).ownBlock = some q → (Value.slice A m c).ownBlock ≠ some q)) (hY : Hid (BsY wr base (l ++ sub))) (hsz : m + sn < 100000) (hpl : Hid (∀ x ∈ sub, x.pn ≤ 1000))
    (hN : ∀ (y19 y75 y76 y77 y78 y79 y80 y81 y82 y83 y84 y85 y86 y87 y88 y89 y90 y91 : Value) (A' : Option Addr) (c' : Nat) (w' : World), Hid (Below w.heap.size w w' ∧ ∃ l3, SuI w' base i sn m A' c' l sub l3 ∧ BsY w' base l3) → Q .normal ⟨#[x0, x1, x2, x3, x4, x5, x6, x7, x8, x9, x10, x11, x12, .slice A' (m + sn) c', .int .i64 i, x15, .slice SA sn sc, x17, x18, y19, x20, x21, x22, x23, x24, x25, x26, x27, x28, x29, x30, x31, x32, x33, x34, x35, x36, x37, x38, x39, x40, x41, x42, x43, x44, x45, x46, x47, x48, x49, x50, x51, x52, x53, x54, x55, x56, x57, x58, x59, x60, x61, x62, x63, x64, x65, x66, x67, x68, x69, x70, x71, x72, x73, x74, y75, y76, y77, y78, y79, y80, y81, y82, y83, y84, y85, y86, y87, y88, y89, y90, y91, x92, x93, x94, x95, x96, x97, x98, x99, x100, x101, x102, x103, x104, x105, x106, x107, x108, x109, x110], []⟩ w') :
    Code.wp Try.prog bdSub Q ⟨#[x0, x1, x2, x3, x4, x5, x6, x7, x8, x9, x10, x11, x12, .slice A m c, .int .i64 i, x15, .slice SA sn sc, x17, x18, x19, x20, x21, x22, x23, x24, x25, x26, x27, x28, x29, x30, x31, x32, x33, x34, x35, x36, x37, x38, x39, x40, x41, x42, x43, x44, x45, x46, x47, x48, x49, x50, x51, x52, x53, x54, x55, x56, x57, x58, x59, x60, x61, x62, x63, x64, x65, x66, x67, x68, x69, x70, x71, x72, x73, x74, x75, x76, x77, x78, x79, x80, x81, x82, x83, x84, x85, x86, x87, x88, x89, x90, x91, x92, x93, x94, x95, x96, x97, x98, x99, x100, x101, x102, x103, x104, x105, x106, x107, x108, x109, x110], []⟩ wr := by
  conv => arg 2; whnf
  obtain ⟨i40, hi40, ha0, ha1, ha2⟩ := info_parts T.info40
  obtain ⟨i3, hi3, hb0, hb1, hb2⟩ := info_parts T.info3P
  have HB := Lib.hid hb
  have HSI : Hid (SuI wr base i 0 m A c l sub l) := Lib.hid ⟨hI.out.1, by rw [← hI.out.2]; rfl, by simp, fun x hx => hY.out.ok x (List.mem_append_left _ hx), fun j x hx => ⟨x, by rw [List.getElem?_append_left (List.getElem?_eq_some_iff.1 hx).1]; exact hx, rfl, rfl, rfl⟩⟩
  have HSS : Hid (wr.ownsRow H 40 2 (.slice SA sn sc) sn (btCs sub) ∧ (∀ x ∈ sub, BtY wr base x)) := Lib.hid ⟨hS.out.1, fun x hx => hY.out.ok x (List.mem_append_right _ hx)⟩
  have HSN := Lib.hid hS.out.2
  have HW := Lib.hid hw
  have HM := Lib.hid hI.out.2
  have HD := Lib.hid hY.out.dis
  clear hb hI hS hY hw
  go_wp2_with fail
  go_loopw [13, 77] (fun av iv wx => ∃ (k : Nat) (A3 : Option Addr) (c3 : Nat), k ≤ sn ∧ iv = .int .i64 k ∧ av = .slice A3 (m + k) c3 ∧ Hid (∃ l3, SuI wx base i k m A3 c3 l sub l3) ∧ Hid (wx.ownsRow H 40 2 (.slice SA sn sc) sn (btCs sub) ∧ (∀ x ∈ sub, BtY wx base x)) ∧ Hid (∀ q, (Value.slice SA sn sc).ownBlock = some q → (Value.slice A3 (m + k) c3).ownBlock ≠ some q) ∧ Hid (Below w.heap.size w wx)) (fun _ iv _ => sn - (intOf iv).toNat)
  case atStart => exact ⟨0, A, c, Nat.zero_le _, rfl, rfl, Lib.hid ⟨l, HSI.out⟩, HSS, hne, HB⟩
  case round =>
    clear HSI HSS hne HB
    obtain ⟨k, A3, c3, hk, rfl, rfl, HI, HS, HN, HB⟩ := hrel
    obtain ⟨l3, hI⟩ := HI.out
    by_cases hlt : k < sn
    · obtain ⟨x, hx⟩ : ∃ x, sub[k]? = some x := ⟨_, List.getElem?_eq_getElem (by have := HSN.out; omega)⟩
      obtain ⟨b, o, rfl, hbb, q0, q1⟩ := Rd.btS HS.out.1 hlt hx
      have hxY := HS.out.2 x (List.mem_of_getElem? hx)
      have hxp := hpl.out x (List.mem_of_getElem? hx)
      have hkz : (k : Int) < sn := by omega
      have hkz0 : (0 : Int) ≤ k := by omega
      have HXX := Lib.hid hx
      have HXY := Lib.hid hxY
      have HI3 := Lib.hid hI
      have hzb : w.heap.size ≤ wr.heap.size := HB.out.size
      have hxpc := hxY.cap
      clear hx hxY hI HI hbb
      have hb2' : Below wr.heap.size wr ((wr.alloc (.cells #[.slice x.pA x.pn x.pc, .slice x.cA x.cn x.cc] 40)).alloc (.cells #[.int .i64 i] 3)) := ((Below.refl _ _).alloc (Nat.le_refl _) _).alloc (by simp) _
      have hown2 : ((wr.alloc (.cells #[.slice x.pA x.pn x.pc, .slice x.cA x.cn x.cc] 40)).alloc (.cells #[.int .i64 i] 3)).ownsRow wr.heap.size 3 1 (.slice (some ⟨wr.heap.size + 1, 0, none⟩) 1 1) 1 [.int .i64 i] := ⟨rfl, .inr ⟨wr.heap.size + 1, 1, #[.int .i64 i], rfl, by omega, Bk.two _ _ _ _, Nat.le_refl _, by unfold maxLen; omega, rfl, rfl⟩⟩
      have hrd2 : Rd ((wr.alloc (.cells #[.slice x.pA x.pn x.pc, .slice x.cA x.cn x.cc] 40)).alloc (.cells #[.int .i64 i] 3)) wr.heap.size 1 x.pA x.pn (x.path.map (Value.int .i64)) := HXY.out.rd.rd.below hb2'
      have HB2 := Lib.hid hb2'
      have HO2 := Lib.hid hown2
      have HR2 := Lib.hid hrd2
      clear hb2' hown2 hrd2
      go_upto_region 20 with
        (at_builtin
         go_must (refine wpList_append_rd _ rfl (.tmp 82) (.tmp 84) _ rfl wr.heap.size 3 i3 (.int .i64 0) 1 8 Try.underlying30 hi3 hb0 hb1 hb2 rfl (by decide) (.slice (some ⟨wr.heap.size + 1, 0, none⟩) 1 1) 1 [.int .i64 i] rfl HO2.out wr.heap.size x.pA x.pn x.pc (x.path.map (Value.int .i64)) rfl HR2.out ?c1 ?c2 ?c3 ?c4 ?_)
         case c1 => (intro u hu; obtain ⟨z, _, rfl⟩ := List.mem_map.1 hu; rfl)
         case c2 => unfold maxLen; omega
         case c3 => omega
         case c4 => (simp; omega)
         intro A5 c5 w3 hown5 hg5 hat5
         have hh3 : Bk w3 wr.heap.size 40 #[.slice x.pA x.pn x.pc, .slice x.cA x.cn x.cc] := Bk.grown (Bk.alloc (Bk.new _ _ _) _) hg5 (by simp [Value.ownBlock])
         have z0 : w3.cell? ⟨wr.heap.size, 0, none⟩ = some (.slice x.pA x.pn x.pc) := hh3.cell 0
         have z1 : w3.cell? ⟨wr.heap.size, 1, none⟩ = some (.slice x.cA x.cn x.cc) := hh3.cell 1
         have y0 := hh3.frozen 0)
      have hb3 : Below wr.heap.size wr w3 := ⟨hg5.os.trans HB2.out.os, hg5.tape.trans HB2.out.tape, hg5.output.trans HB2.out.output, Nat.le_trans HB2.out.size hg5.size, fun q hq => (hg5.block q (Nat.lt_of_lt_of_le hq HB2.out.size) (fun e => by simp [Value.ownBlock] at e; omega)).trans (HB2.out.block q hq)⟩
      have hb4 : Below wr.heap.size wr (w3.setCell ⟨wr.heap.size, 0, none⟩ (.slice A5 (1 + x.pn) c5)) := hb3.setCell (p := ⟨wr.heap.size, 0, none⟩) (Nat.le_refl _) _
      have hh4 := hh3.set_ 0 (Value.slice A5 (1 + x.pn) c5)
      have hk34 : Kx 0 [40] w3 (w3.setCell ⟨wr.heap.size, 0, none⟩ (.slice A5 (1 + x.pn) c5)) := (Kx.refl (B := 0) (F := [40])).set hh3 (Nat.zero_le _) (by simp) _ _
      have hp4 := (RdY.of_own (B := 0) hown5).keep hk34 (by decide)
      have hcp5 := own_cap2 hown5
      obtain ⟨W4, hW4⟩ : ∃ W4, W4 = w3.setCell ⟨wr.heap.size, 0, none⟩ (.slice A5 (1 + x.pn) c5) := ⟨_, rfl⟩
      rw [← hW4] at hb4 hh4 hk34 hp4 ⊢
      have hk4 : Kx 0 [] wr W4 := Kx.of_below hb4
      have hI4 : SuI W4 base i k m A3 c3 l sub l3 := ⟨own_keepB HI3.out.own fun q hq => hb4.block q (HI3.out.own.lt q hq).2, HI3.out.len, HI3.out.p, fun y hy => (HI3.out.ok y hy).keep hk4 (by simp) (by simp), HI3.out.of_⟩
      have hS4 : W4.ownsRow H 40 2 (.slice (some ⟨b, o, none⟩) sn sc) sn (btCs sub) := own_keepB HS.out.1 fun q hq => hb4.block q (HS.out.1.lt q hq).2
      have hx4 := HXY.out.keep hk4 (by simp) (by simp)
      have hz4 : wr.heap.size ≤ W4.heap.size := hb4.size
      have u0 : W4.cell? ⟨wr.heap.size, 0, none⟩ = some (.slice A5 (1 + x.pn) c5) := hh4.cell 0
      have u1 : W4.cell? ⟨wr.heap.size, 1, none⟩ = some (.slice x.cA x.cn x.cc) := hh4.cell 1
      have HI4 := Lib.hid hI4
      have HS4 := Lib.hid hS4
      have HX4 := Lib.hid hx4
      have HP4 := Lib.hid hp4
      have HB4 : Hid (Below w.heap.size w W4) := Lib.hid (HB.out.trans (hb4.mono hzb))
      have HK4 := Lib.hid hk4
      have hbs : base ≤ W4.heap.size := by have := HW.out; omega
      clear hown5 hg5 hat5 hh3 z0 z1 y0 hb3 hb4 hh4 hk34 hp4 hW4 hk4 hI4 hS4 hx4 HB2 HO2 HR2 q0 q1
      go_wp2_with
        (at_builtin
         go_must (refine wpList_append_one _ rfl (.tmp 87) (.tmp 89) _ rfl base 40 i40 (.agg #[.slice none 0 0, .slice none 0 0]) 2 48 Try.underlying35 hi40 ha0 ha1 ha2 rfl (by decide) (.slice A3 (m + k) c3) (m + k) (btCs l3) rfl (HI4.out.own.alloc _) _ 1 40 #[.slice A5 (1 + x.pn) c5, .slice x.cA x.cn x.cc] rfl (Bk.new _ _ _) rfl ?d1 (m + k + 1) rfl ?d2 ?d3 ?d4 ?_)
         case d1 => simp [Value.oneCell']
         case d2 => unfold maxLen; omega
         case d3 => omega
         case d4 => (simp; omega)
         intro g6 c6 w6 hown6 hg6 hat6)
      have hk6 : Kx 0 [40] W4 w6 := ((Kx.refl (B := 0)).alloc _).grown (HI4.out.own.alloc _) hg6 (Nat.zero_le _) (by simp)
      have hB6 : Below w.heap.size w w6 := (HB4.out.alloc HB4.out.size _).grown hg6 (by have := HB4.out.size; simp; omega) (fun q hq => by have := (HI4.out.own.lt q hq).1; have := HW.out; omega)
      have hml := HM.out
      have hI6 : SuI w6 base i (k + 1) m (some ⟨g6, 0, none⟩) c6 l sub (l3 ++ [⟨A5, 1 + x.pn, c5, (i : Int) :: x.path, x.cA, x.cn, x.cc, x.cms⟩]) := by
        refine ⟨?_, by rw [List.length_append, HI4.out.len]; rfl, ?_, fun y hy => ?_, fun j y hy => ?_⟩
        · have e : btCs (l3 ++ [⟨A5, 1 + x.pn, c5, (i : Int) :: x.path, x.cA, x.cn, x.cc, x.cms⟩]) = btCs l3 ++ [.slice A5 (1 + x.pn) c5, .slice x.cA x.cn x.cc] := by simp [btCs, Bt.cs]
          rw [e]; exact hown6
        · rw [List.map_append, HI4.out.p, List.take_add_one, HXX.out, List.append_assoc, List.map_append]
          rfl
        · rcases List.mem_append.1 hy with hy | hy
          · exact (HI4.out.ok y hy).keep hk6 (by decide) (by decide)
          · rw [List.mem_singleton.1 hy]
            have h1 := HX4.out.keep hk6 (by decide) (by decide)
            exact ⟨HP4.out.keep hk6 (by decide), by show 1 + x.pn = (x.path.length + 1); rw [h1.len]; omega, hcp5.1, hcp5.2, h1.cs, h1.own⟩
        · rcases Nat.lt_or_ge j l3.length with hj | hj
          · rw [List.getElem?_append_left hj] at hy
            exact HI4.out.of_ j y hy
          · have hj2 := (List.getElem?_eq_some_iff.1 hy).1
            rw [List.length_append, List.length_singleton] at hj2
            have hje : j = l3.length := by omega
            rw [List.getElem?_append_right hj, hje, Nat.sub_self] at hy
            have e : (⟨A5, 1 + x.pn, c5, (i : Int) :: x.path, x.cA, x.cn, x.cc, x.cms⟩ : Bt) = y := by simpa using hy
            subst e
            refine ⟨x, ?_, rfl, rfl, rfl⟩
            rw [hje, HI4.out.len, List.getElem?_append_right (by omega), ← hml, Nat.add_sub_cancel_left]; exact HXX.out
      have hlt6 := HS4.out.lt
      have HI6 := Lib.hid hI6
      have HS6 : Hid (w6.ownsRow H 40 2 (.slice (some ⟨b, o, none⟩) sn sc) sn (btCs sub) ∧ (∀ y ∈ sub, BtY w6 base y)) := Lib.hid ⟨own_keepB (HS4.out.alloc _) fun q hq => hg6.block q ((HS4.out.alloc _).lt q hq).2 (fun e => HN.out q hq e.symm), fun y hy => ((HS.out.2 y hy).keep HK4.out (by simp) (by simp)).keep hk6 (by decide) (by decide)⟩
      have HN6 : Hid (∀ q, (Value.slice (some ⟨b, o, none⟩) sn sc).ownBlock = some q → (Value.slice (some ⟨g6, 0, none⟩) (m + (k + 1)) c6).ownBlock ≠ some q) := Lib.hid (fun q hq e => by
        have e1 : g6 = q := by simpa [Value.ownBlock] using e
        subst e1
        rcases hat6 with h | h
        · exact HN.out g6 hq h
        · have := (hlt6 g6 hq).2
          simp at h; omega)
      have HB6 := Lib.hid hB6
      clear hk6 hB6 hown6 hg6 hat6 hI6 hlt6
      go_wp2_with fail
      go_roundw
      case measure => simp [intOf]; omega
      case rel => exact ⟨k + 1, some ⟨g6, 0, none⟩, c6, hlt, by go_num, rfl, Lib.hid ⟨_, HI6.out⟩, HS6, HN6, HB6⟩
    · obtain rfl : k = sn := by omega
      have HP : Hid (Below w.heap.size w wr ∧ ∃ l3, SuI wr base i k m A3 c3 l sub l3 ∧ BsY wr base l3) := Lib.hid ⟨HB.out, l3, hI, hI.ok, fun p q x y hpq hx hy hxn hyn b1 o1 b2 o2 h1 h2 => by
        obtain ⟨x0, e1, e2, e3, _⟩ := hI.of_ p x hx
        obtain ⟨y0, f1, f2, f3, _⟩ := hI.of_ q y hy
        exact HD.out p q x0 y0 hpq e1 f1 (by omega) (by omega) b1 o1 b2 o2 (by rw [← e2]; exact h1) (by rw [← f2]; exact h2)⟩
      clear hI
      go_wp2_with fail
      exact HP
end Go.Proofs.Ytnidcmhfbkdioaa
