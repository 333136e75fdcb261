/-
  The last loop of prefab.build: the replacements, one after another. Conditions: what is read can be read.
-/
import Derived.Test.YtnidcmhfbkdioaaPg
namespace Go.Proofs.Ytnidcmhfbkdioaa
open Go.RowKit
set_option maxRecDepth 100000

def fromR (n : Nat) : Code → Option Code
  | .seq (.seq (.region i o d) x) b => if i = n then some (.seq (.seq (.region i o d) x) b) else fromR n b
  | .scope c => fromR n c
  | .seq _ b => fromR n b
  | _ => none
noncomputable def bdOvers : Code := (Try.f100.body.bind (fromR 25)).getD .skip
theorem CsY.okB {w : World} {A : Option Addr} {n c : Nat} {l : List Cm} (h : CsY w 0 A n c l) : CsOk w w.heap.size A n c l := ⟨h.rd.rd, h.len, h.cap, h.cap2, fun x hx => ⟨(h.ok x hx).rd.rd, (h.ok x hx).len, (h.ok x hx).cap, (h.ok x hx).cap2, (h.ok x hx).wf⟩, Nat.le_refl _⟩
theorem BtY.okB {w : World} {base : Nat} {x : Bt} (h : BtY w base x) : BtOk w w.heap.size x := ⟨h.rd.rd, h.len, h.cap, h.cap2, h.cs.okB⟩
def KOkB (ks : List Kd) (l : List Bt) : Prop := ∀ x ∈ l, ∀ cm ∈ x.cms, (∃ k : Nat, cm.k = k ∧ k < ks.length) ∧ cm.n ≤ 1048576
/-- What is built, in memory. -/
structure BuI (w : World) (base : Nat) (ks : List Kd) (A : Option Addr) (m c : Nat) (l : List Bt) : Prop where
  own : w.ownsRow base 40 2 (.slice A m c) m (btCs l)
  len : m = l.length
  ys : BsY w base l
  kok : KOkB ks l

set_option maxHeartbeats 6000000 in
theorem bdOvers_any {x1 x2 x4 x5 x6 x7 x8 x9 x10 x11 x12 x14 x15 x16 x17 x18 x19 x20 x21 x22 x23 x24 x25 x26 x27 x28 x29 x30 x31 x32 x33 x34 x35 x36 x37 x38 x39 x40 x41 x42 x43 x44 x45 x46 x47 x48 x49 x50 x51 x52 x53 x54 x55 x56 x57 x58 x59 x60 x61 x62 x63 x64 x65 x66 x67 x68 x69 x70 x71 x72 x73 x74 x75 x76 x77 x78 x79 x80 x81 x82 x83 x84 x85 x86 x87 x88 x89 x90 x91 x92 x93 x94 x95 x96 x97 x98 x99 x100 x101 x102 x103 x104 x105 x106 x107 x108 x109 x110 : Value} {Q : Exit → Act → World → Prop} {w wr : World} {B kn kc on oc m c : Nat} {kA oA A : Option Addr} {ks : List Kd} {ovs : List Ov} {l : List Bt} (hk : KsOk w B kA kn kc ks) (ho : OvsOk w B oA on oc ovs) (hb : Below w.heap.size w wr) (hI : Hid (BuI wr w.heap.size ks A m c l))
    (hN : ∀ (y21 y22 y96 y97 y98 y99 y100 y101 y102 y103 y104 y105 y106 y107 y108 y109 y110 : Value) (w' : World), Hid (Below w.heap.size w w' ∧ (oversF (ks.map Kd.p) (ovs.map Ov.p) (l.map Bt.p)).1 ≠ 0) → Q .ret ⟨#[.slice kA kn kc, x1, x2, .slice oA on oc, x4, x5, x6, x7, .slice none 0 0, .int .i64 (oversF (ks.map Kd.p) (ovs.map Ov.p) (l.map Bt.p)).1, x10, x11, x12, .slice A m c, x14, x15, x16, x17, x18, x19, x20, y21, y22, x23, x24, x25, x26, x27, x28, x29, x30, x31, x32, x33, x34, x35, x36, x37, x38, x39, x40, x41, x42, x43, x44, x45, x46, x47, x48, x49, x50, x51, x52, x53, x54, x55, x56, x57, x58, x59, x60, x61, x62, x63, x64, x65, x66, x67, x68, x69, x70, x71, x72, x73, x74, x75, x76, x77, x78, x79, x80, x81, x82, x83, x84, x85, x86, x87, x88, x89, x90, x91, x92, x93, x94, x95, y96, y97, y98, y99, y100, y101, y102, y103, y104, y105, y106, y107, y108, y109, y110], []⟩ w')
    (hE : ∀ (y21 y22 y96 y97 y98 y99 y100 y101 y102 y103 y104 y105 y106 y107 y108 y109 y110 : Value) (w' : World), Hid (Below w.heap.size w w' ∧ (oversF (ks.map Kd.p) (ovs.map Ov.p) (l.map Bt.p)).1 = 0 ∧ ∃ l', BuI w' w.heap.size ks A m c l' ∧ l'.map Bt.p = (oversF (ks.map Kd.p) (ovs.map Ov.p) (l.map Bt.p)).2) → Q .ret ⟨#[.slice kA kn kc, x1, x2, .slice oA on oc, x4, x5, x6, x7, .slice A m c, .int .i64 0, x10, x11, x12, .slice A m c, x14, x15, x16, x17, x18, x19, x20, y21, y22, x23, x24, x25, x26, x27, x28, x29, x30, x31, x32, x33, x34, x35, x36, x37, x38, x39, x40, x41, x42, x43, x44, x45, x46, x47, x48, x49, x50, x51, x52, x53, x54, x55, x56, x57, x58, x59, x60, x61, x62, x63, x64, x65, x66, x67, x68, x69, x70, x71, x72, x73, x74, x75, x76, x77, x78, x79, x80, x81, x82, x83, x84, x85, x86, x87, x88, x89, x90, x91, x92, x93, x94, x95, y96, y97, y98, y99, y100, y101, y102, y103, y104, y105, y106, y107, y108, y109, y110], []⟩ w') :
    Code.wp Try.prog bdOvers Q ⟨#[.slice kA kn kc, x1, x2, .slice oA on oc, x4, x5, x6, x7, x8, x9, x10, x11, x12, .slice A m c, x14, x15, x16, x17, x18, x19, x20, x21, x22, x23, x24, x25, x26, x27, x28, x29, x30, x31, x32, x33, x34, x35, x36, x37, x38, x39, x40, x41, x42, x43, x44, x45, x46, x47, x48, x49, x50, x51, x52, x53, x54, x55, x56, x57, x58, x59, x60, x61, x62, x63, x64, x65, x66, x67, x68, x69, x70, x71, x72, x73, x74, x75, x76, x77, x78, x79, x80, x81, x82, x83, x84, x85, x86, x87, x88, x89, x90, x91, x92, x93, x94, x95, x96, x97, x98, x99, x100, x101, x102, x103, x104, x105, x106, x107, x108, x109, x110], []⟩ wr := by
  conv => arg 2; whnf
  obtain ⟨R, hR⟩ : ∃ R, R = oversF (ks.map Kd.p) (ovs.map Ov.p) (l.map Bt.p) := ⟨_, rfl⟩
  rw [← hR] at hN hE
  have hcap := ho.cap
  have hcap2 := ho.cap2
  have hB := hk.lo
  have HK := Lib.hid hk
  have HO := Lib.hid ho
  have HB := Lib.hid hb
  have HR : Hid (R = oversF (ks.map Kd.p) ((ovs.drop 0).map Ov.p) (l.map Bt.p)) := Lib.hid (by rw [List.drop_zero]; exact hR)
  clear hk ho hb hR
  go_wp2_with fail
  go_loopw [98] (fun iv wx => ∃ i : Nat, i ≤ on ∧ iv = .int .i64 i ∧ Hid (∃ l', BuI wx w.heap.size ks A m c l' ∧ R = oversF (ks.map Kd.p) ((ovs.drop i).map Ov.p) (l'.map Bt.p)) ∧ Hid (Below w.heap.size w wx)) (fun iv _ => on - (intOf iv).toNat)
  case atStart => exact ⟨0, Nat.zero_le _, rfl, Lib.hid ⟨l, hI.out, HR.out⟩, HB⟩
  case round =>
    clear HR hI HB
    obtain ⟨i, hi, rfl, HI, HW⟩ := hrel
    obtain ⟨l1, hI1, hR1⟩ := HI.out
    by_cases hlt : i < on
    · obtain ⟨x, hx⟩ : ∃ x, ovs[i]? = some x := ⟨_, List.getElem?_eq_getElem (by have := HO.out.len; omega)⟩
      have how := HO.out.below (HW.out.mono hB)
      have hkw := HK.out.below (HW.out.mono hB)
      obtain ⟨b, o, rfl, hbb, q0, q1, q2, q3⟩ := how.rd.ov hlt hx
      have hxo := how.ok x (List.mem_of_getElem? hx)
      have hiz : (i : Int) < on := by omega
      have hiz0 : (0 : Int) ≤ i := by omega
      obtain ⟨W1, hW1⟩ : ∃ W1, W1 = wr.alloc (.cells #[.slice x.pA x.pn x.pc, .int .i64 x.K, .int .i64 x.F, .int .i64 x.V] 158) := ⟨_, rfl⟩
      have hb1 : Below wr.heap.size wr W1 := by rw [hW1]; exact (Below.refl _ _).alloc (Nat.le_refl _) _
      have hk1 : Kx 0 [] wr W1 := Kx.of_below hb1
      have hy1 := hI1.ys.keep hk1 (by simp) (by simp)
      have hO1 := hk1.own hI1.own (by simp)
      have hwW : w.heap.size ≤ W1.heap.size := by have := hb1.size; have := HW.out.size; omega
      have hhh : Bk W1 wr.heap.size 158 #[.slice x.pA x.pn x.pc, .int .i64 x.K, .int .i64 x.F, .int .i64 x.V] := by rw [hW1]; exact Bk.new _ _ _
      have HOV := Lib.hid (over_any (w := W1) (B := W1.heap.size) (kA := kA) (kn := kn) (kc := kc) (ks := ks) (A := A) (n := m) (c := c) (l := l1) (pA := x.pA) (pn := x.pn) (pc := x.pc) (path := x.path) (K := x.K) (F := x.F) (V := x.V)
        (by have h1 := hkw.below (hb1.mono (by have := HW.out.size; omega)); exact h1.moreP (B' := W1.heap.size) (by omega) (Nat.le_refl _))
        ⟨Rd.of_own hO1, hI1.len, (own_cap2 hO1).1, (own_cap2 hO1).2, fun y hy => (hy1.ok y hy).okB, Nat.le_refl _⟩
        ((hxo.rd.below (hb1.mono (by have := HW.out.size; omega))).more (by omega)) hxo.len hxo.cap hxo.cap2 hxo.wF hI1.kok
        (fun y hy hn => by obtain ⟨b9, o9, cs9, h1, _, h2⟩ := (hy1.ok y hy).own hn; exact ⟨b9, o9, cs9, h1, h2⟩))
      have HB1 : Hid (Below w.heap.size w W1) := Lib.hid (HW.out.trans (hb1.mono HW.out.size))
      have HI1 : Hid (BuI W1 w.heap.size ks A m c l1) := Lib.hid ⟨hO1, hI1.len, hy1, hI1.kok⟩
      have hRx : R = oversF (ks.map Kd.p) (Ov.p x :: (ovs.drop (i + 1)).map Ov.p) (l1.map Bt.p) := by
        rw [hR1, List.drop_eq_getElem_cons (by have := HO.out.len; omega), (List.getElem?_eq_some_iff.1 hx).2, List.map_cons]
      have HRX := Lib.hid hRx
      obtain ⟨hh, hhe⟩ : ∃ hh, hh = wr.heap.size := ⟨_, rfl⟩
      rw [← hhe] at hhh
      have c0 : W1.cell? ⟨hh, 0, none⟩ = some (.slice x.pA x.pn x.pc) := hhh.cell 0
      have c1 : W1.cell? ⟨hh, 1, none⟩ = some (.int .i64 x.K) := hhh.cell 1
      have c2 : W1.cell? ⟨hh, 2, none⟩ = some (.int .i64 x.F) := hhh.cell 2
      have c3 : W1.cell? ⟨hh, 3, none⟩ = some (.int .i64 x.V) := hhh.cell 3
      have HW1 := Lib.hid (And.intro hW1 hhe)
      clear hx how hkw hxo hb1 hk1 hy1 hO1 hhh hRx hW1 hhe hI1 hR1 hbb HI HW
      obtain ⟨cd, hcd⟩ : ∃ cd, cd = ovCode (ks.map Kd.p) (l1.map Bt.p) x.path x.K x.F x.V := ⟨_, rfl⟩
      unfold OvP at HOV
      rw [← hcd] at HOV
      have HCD := Lib.hid hcd
      clear hcd
      go_upto_region 28 with fail
      rw [← HW1.out.1, ← HW1.out.2]
      clear q0 q1 q2 q3
      go_wp2_with fail
      with_reducible refine (HOV.out).mono ?_
      clear HOV c0 c1 c2 c3
      rintro e w3 ⟨rfl, hor⟩
      have HOR := Lib.hid hor
      clear hor
      by_cases hc0 : cd = 0
      · rcases HOR.out with ⟨h1, _⟩ | ⟨_, hd⟩
        · exact absurd hc0 h1
        · obtain ⟨l2, hy2, hp2, hb2, hl2, hbl2, hkx2, hkk2⟩ := HI1.out.ys.over hwW hd
          have hI2 : BuI w3 w.heap.size ks A m c l2 := ⟨by rw [hb2]; exact hkx2.own HI1.out.own (by decide), by rw [hl2]; exact HI1.out.len, hy2, fun y hy cm hcm => hkk2 (fun k n => (∃ k' : Nat, k = k' ∧ k' < ks.length) ∧ n ≤ 1048576) (fun y hy cm hcm => HI1.out.kok y hy cm hcm) y hy cm hcm⟩
          have HI2 := Lib.hid hI2
          have HR2 : Hid (R = oversF (ks.map Kd.p) ((ovs.drop (i + 1)).map Ov.p) (l2.map Bt.p)) := Lib.hid (by
            rw [HRX.out, oversF, if_neg (by unfold Ov.p; dsimp only; rw [← HCD.out, hc0]; simp), hp2]; rfl)
          have HB3 : Hid (Below w.heap.size w w3) := Lib.hid (HB1.out.trans hbl2)
          subst hc0
          clear hd hy2 hp2 hb2 hl2 hbl2 hkx2 hkk2 hI2
          go_wp2_with fail
          go_roundw
          case measure => simp [intOf]; omega
          case rel => exact ⟨i + 1, hlt, by go_num, Lib.hid ⟨l2, HI2.out, HR2.out⟩, HB3⟩
      · rcases HOR.out with ⟨_, hbl⟩ | ⟨h1, _⟩
        · have hR0 : R.1 = cd := by
            rw [HRX.out, oversF, if_pos (by unfold Ov.p; dsimp only; rw [← HCD.out]; exact hc0)]
            unfold Ov.p; dsimp only; exact HCD.out.symm
          have HP : Hid (Below w.heap.size w w3 ∧ R.1 ≠ 0) := Lib.hid ⟨HB1.out.trans (hbl.mono hwW), by rw [hR0]; exact hc0⟩
          have HR0 := Lib.hid hR0
          clear hR0 hbl
          go_wp2_with fail
          rw [← HR0.out]
          exact hN _ _ _ _ _ _ _ _ _ _ _ _ _ _ _ _ _ _ HP
        · exact absurd h1 hc0
    · obtain rfl : i = on := by omega
      have hRe : R = (0, l1.map Bt.p) := by rw [hR1, List.drop_of_length_le (by rw [← HO.out.len]; exact Nat.le_refl _)]; rfl
      have HP : Hid (Below w.heap.size w wr ∧ R.1 = 0 ∧ ∃ l', BuI wr w.heap.size ks A m c l' ∧ l'.map Bt.p = R.2) := Lib.hid ⟨HW.out, by rw [hRe], l1, hI1, by rw [hRe]⟩
      clear hRe hI1 hR1
      go_wp2_with fail
      exact hE _ _ _ _ _ _ _ _ _ _ _ _ _ _ _ _ _ _ HP
end Go.Proofs.Ytnidcmhfbkdioaa
