/-
  The contract of bridge.Of. Conditions: what is read can be read.
-/
import Derived.Test.YtnidcmhfbkdioaaKg
import Derived.Laws.ResultCell
namespace Go.Proofs.Ytnidcmhfbkdioaa
open Go.RowKit
set_option maxRecDepth 100000

def sPlace : ByteArray := ⟨#[112, 108, 97, 99, 101]⟩
def sMotion : ByteArray := ⟨#[109, 111, 116, 105, 111, 110]⟩
def sShape : ByteArray := ⟨#[115, 104, 97, 112, 101]⟩
def nPlace : List ByteArray := [⟨#[120]⟩, ⟨#[121]⟩, ⟨#[97, 110, 103]⟩]
def nMotion : List ByteArray := [⟨#[118, 120]⟩, ⟨#[118, 121]⟩, ⟨#[115, 112, 105, 110]⟩, ⟨#[99, 97, 108, 109]⟩]
def nShape : List ByteArray := [⟨#[119]⟩, ⟨#[104]⟩, ⟨#[109, 97, 115, 115]⟩, ⟨#[98, 111, 117, 110, 99, 101]⟩, ⟨#[114, 117, 98]⟩]
def ofF (ks : List (ByteArray × List Fd)) : (Int × Int × Int) × Int :=
  if checkF ks ≠ 0 then ((0, 0, 0), checkF ks) else
  if (bfindF ks sPlace nPlace).2 ≠ 0 then ((0, 0, 0), (bfindF ks sPlace nPlace).2) else
  if (bfindF ks sMotion nMotion).2 ≠ 0 then ((0, 0, 0), (bfindF ks sMotion nMotion).2) else
  if (bfindF ks sShape nShape).2 ≠ 0 then ((0, 0, 0), (bfindF ks sShape nShape).2) else
  (((bfindF ks sPlace nPlace).1, (bfindF ks sMotion nMotion).1, (bfindF ks sShape nShape).1), 0)

/-- A block that has just been laid, read as a slice. -/
theorem Rd.lit (w : World) (xs : List Value) (t : TypeId) : Rd (w.alloc (.cells xs.toArray t)) (w.heap.size + 1) 1 (some ⟨w.heap.size, 0, none⟩) xs.length xs :=
  ⟨by simp, fun _ => ⟨_, _, rfl, by omega, fun j u hu => by
    rw [Nat.zero_add]
    exact ((Bk.new w t xs.toArray).cell j).trans (by simpa using hu)⟩⟩
/-- What is known of kinds that came in. -/
structure KsOk (w : World) (B : Nat) (A : Option Addr) (n c : Nat) (ks : List Kd) : Prop where
  rd : Rd w B 2 A n (kdCs ks)
  len : n = ks.length
  cap : n ≤ c
  cap2 : c ≤ 9223372036854775807
  ok : ∀ k ∈ ks, KdOk w B k
  lo : B ≤ w.heap.size
theorem KsOk.below {w w' : World} {B n c : Nat} {A : Option Addr} {ks : List Kd} (h : KsOk w B A n c ks) (hb : Below B w w') : KsOk w' B A n c ks :=
  ⟨h.rd.below hb, h.len, h.cap, h.cap2, fun k hk => (h.ok k hk).below hb, Nat.le_trans h.lo hb.size⟩
theorem KsOk.more {w : World} {B B' n c : Nat} {A : Option Addr} {ks : List Kd} (h : KsOk w B A n c ks) (hB : B ≤ B') (hB' : B' ≤ w.heap.size) : KsOk w B' A n c ks :=
  ⟨h.rd.more hB, h.len, h.cap, h.cap2, fun k hk => ⟨(h.ok k hk).rd.more hB, (h.ok k hk).len, (h.ok k hk).cap, (h.ok k hk).cap2⟩, hB'⟩

def FindP (w : World) (r : Int × Int) (e : Ending) (w' : World) : Prop := e = .returned (.tuple #[.int .i64 r.1, .int .i64 r.2]) ∧ Below w.heap.size w w'
theorem find_lit {w : World} {B n c : Nat} {A : Option Addr} {ks : List Kd} (h : KsOk w B A n c ks) (nm : ByteArray) (ns : List ByteArray) :
    Calls Try.prog 95 #[.slice A n c, .string nm, .slice (some ⟨w.heap.size, 0, none⟩) ns.length ns.length] (w.alloc (.cells (strV ns).toArray 9)) (FindP w (bfindF (ks.map Kd.p) nm ns)) := by
  have hb := (Below.refl w.heap.size w).alloc (Nat.le_refl _) (.cells (strV ns).toArray 9)
  have h2 := (h.below (hb.mono h.lo)).more (B' := w.heap.size + 1) (by have := h.lo; omega) (by simp)
  have hl := Rd.lit w (strV ns) 9
  rw [show (strV ns).length = ns.length by simp [strV]] at hl
  exact (bfind_any A (some ⟨w.heap.size, 0, none⟩) n c ns.length ns.length (w.heap.size + 1) ks nm ns _ h2.rd h2.len h2.cap h2.cap2 h2.ok hl rfl h2.lo).mono fun e w' hh => ⟨hh.1, hb.trans (hh.2.mono (by simp))⟩

def OfP (w : World) (r : (Int × Int × Int) × Int) (e : Ending) (w' : World) : Prop :=
  e = .returned (.tuple #[.agg #[.int .i64 r.1.1, .int .i64 r.1.2.1, .int .i64 r.1.2.2], .int .i64 r.2]) ∧ Below w.heap.size w w'

set_option maxHeartbeats 800000 in
theorem of_any {w : World} {B n c : Nat} {A : Option Addr} {ks : List Kd} (h : KsOk w B A n c ks) : Calls Try.prog 19 #[.slice A n c] w (OfP w (ofF (ks.map Kd.p))) := by
  obtain ⟨R, hR⟩ : ∃ R, R = ofF (ks.map Kd.p) := ⟨_, rfl⟩
  rw [← hR]
  have HR := Lib.hid hR
  obtain ⟨w1, hw1⟩ : ∃ w1, w1 = w.alloc (.cells #[.int .i64 0, .int .i64 0, .int .i64 0] 24) := ⟨_, rfl⟩
  have hb1 : Below w.heap.size w w1 := by rw [hw1]; exact (Below.refl _ w).alloc (Nat.le_refl _) _
  have hk1 : Bk w1 w.heap.size 24 #[.int .i64 0, .int .i64 0, .int .i64 0] := by rw [hw1]; exact Bk.new _ _ _
  have h1 := h.below (hb1.mono h.lo)
  have hck := check_any A n c B ks w1 h1.rd h1.len h1.cap h1.cap2 h1.ok h1.lo
  have HCK := Lib.hid hck
  have H1 := Lib.hid h1
  have HB1 := Lib.hid hb1
  have HK1 := Lib.hid hk1
  clear hR hb1 hk1 h1 hck
  go_enter Try.func19, Try.ntmps19
  go_wp2_with fail
  rw [← hw1]
  clear hw1
  refine HCK.out.mono ?_
  rintro e w2 ⟨rfl, hb2⟩
  have HB2 := Lib.hid (HB1.out.trans (hb2.mono HB1.out.size))
  have HK2 := Lib.hid (HK1.out.below hb2 HK1.out.lt)
  have HZ2 : Hid (w.heap.size < w2.heap.size) := Lib.hid (HK2.out.lt)
  have H2 := Lib.hid (H1.out.below (hb2.mono H1.out.lo))
  clear hb2
  generalize hcv : checkF (ks.map Kd.p) = cv at *
  by_cases hc0 : cv = 0
  · subst hc0
    have hR2 : R = if (bfindF (ks.map Kd.p) sPlace nPlace).2 ≠ 0 then ((0, 0, 0), (bfindF (ks.map Kd.p) sPlace nPlace).2) else
        if (bfindF (ks.map Kd.p) sMotion nMotion).2 ≠ 0 then ((0, 0, 0), (bfindF (ks.map Kd.p) sMotion nMotion).2) else
        if (bfindF (ks.map Kd.p) sShape nShape).2 ≠ 0 then ((0, 0, 0), (bfindF (ks.map Kd.p) sShape nShape).2) else
        (((bfindF (ks.map Kd.p) sPlace nPlace).1, (bfindF (ks.map Kd.p) sMotion nMotion).1, (bfindF (ks.map Kd.p) sShape nShape).1), 0) := by
      rw [HR.out, ofF, if_neg (by rw [hcv]; simp)]
    have HR2 := Lib.hid hR2
    clear hR2 HR
    obtain ⟨w3, hw3⟩ : ∃ w3, w3 = w2.alloc (.cells #[.int .i64 0, .int .i64 0, .int .i64 0] 24) := ⟨_, rfl⟩
    have hz3 : w3.heap.size = w2.heap.size + 1 := by rw [hw3]; simp
    have hb3 : Below w2.heap.size w2 w3 := by rw [hw3]; exact (Below.refl _ w2).alloc (Nat.le_refl _) _
    have HM3 : Hid (Bk w3 w2.heap.size 24 #[.int .i64 0, .int .i64 0, .int .i64 0]) := Lib.hid (by rw [hw3]; exact Bk.new _ _ _)
    have HB3 := Lib.hid (HB2.out.trans (hb3.mono HB2.out.size))
    have HK3 := Lib.hid (HK2.out.below hb3 HZ2.out)
    have H3 := Lib.hid (H2.out.below (hb3.mono H2.out.lo))
    clear hb3
    have HZ3 := Lib.hid hz3
    clear hz3
    have hf0 : Calls Try.prog 95 #[.slice A n c, .string ⟨#[112, 108, 97, 99, 101]⟩, .slice (some ⟨(w3).heap.size, 0, none⟩) 3 3] ((w3).alloc (.cells #[.string ⟨#[120]⟩, .string ⟨#[121]⟩, .string ⟨#[97, 110, 103]⟩] 9)) (FindP (w3) (bfindF (ks.map Kd.p) sPlace nPlace)) := find_lit H3.out sPlace nPlace
    rw [HZ3.out] at hf0
    generalize hg0 : bfindF (ks.map Kd.p) sPlace nPlace = r0 at *
    obtain ⟨a0, e0⟩ := r0
    have HF0 := Lib.hid hf0
    clear hf0
    go_wp2_with fail
    rw [← hw3]
    clear hw3
    refine HF0.out.mono ?_
    rintro e v0 ⟨rfl, hbv⟩
    replace hbv : Below w3.heap.size (w3) v0 := by
      have h9 := hbv
      exact h9
    have HVM : Hid (Bk v0 w2.heap.size 24 #[.int .i64 0, .int .i64 0, .int .i64 0]) := Lib.hid (HM3.out.below hbv (by have := HM3.out.lt; omega))
    have HVK : Hid (Bk v0 w.heap.size 24 #[.int .i64 0, .int .i64 0, .int .i64 0]) := Lib.hid (HK3.out.below hbv (by have := HK3.out.lt; omega))
    have HVB : Hid (Below w.heap.size w v0) := Lib.hid (HB3.out.trans (hbv.mono (by have := HZ2.out; have := HM3.out.lt; omega)))
    have HVH : Hid (KsOk v0 B A n c ks) := Lib.hid (H3.out.below (hbv.mono (by have := H3.out.lo; omega)))
    clear hbv
    have HM0_ : Hid (Bk (v0.setCell ⟨w2.heap.size, 0, none⟩ (.int .i64 a0)) w2.heap.size 24 #[.int .i64 a0, .int .i64 0, .int .i64 0]) := Lib.hid (HVM.out.set_ 0 (.int .i64 a0))
    have HK0_ : Hid (Bk (v0.setCell ⟨w2.heap.size, 0, none⟩ (.int .i64 a0)) w.heap.size 24 #[.int .i64 0, .int .i64 0, .int .i64 0]) := Lib.hid (HVK.out.far (by show w.heap.size ≠ w2.heap.size; have := HZ2.out; omega) _)
    have HB0_ : Hid (Below w.heap.size w (v0.setCell ⟨w2.heap.size, 0, none⟩ (.int .i64 a0))) := Lib.hid (HVB.out.setCell (p := ⟨w2.heap.size, 0, none⟩) (by show w.heap.size ≤ w2.heap.size; have := HZ2.out; omega) _)
    have HH0_ : Hid (KsOk (v0.setCell ⟨w2.heap.size, 0, none⟩ (.int .i64 a0)) B A n c ks) := Lib.hid (HVH.out.below ((Below.refl w.heap.size v0).setCell (p := ⟨w2.heap.size, 0, none⟩) (by show w.heap.size ≤ w2.heap.size; have := HZ2.out; omega) _ |>.mono h.lo))
    have m0 : v0.cell? ⟨w2.heap.size, 0, none⟩ = some (.int .i64 0) := HVM.out.cell 0
    have mf0 := HVM.out.frozen 0
    clear HVM HVK HVB HVH
    by_cases he0 : e0 = 0
    · subst he0
      have HR2' := HR2.out
      rw [if_neg (by simp)] at HR2'
      clear HR2
      have HR2 := Lib.hid HR2'
      clear HR2'
      have hf1 : Calls Try.prog 95 #[.slice A n c, .string ⟨#[109, 111, 116, 105, 111, 110]⟩, .slice (some ⟨(v0.setCell ⟨w2.heap.size, 0, none⟩ (.int .i64 a0)).heap.size, 0, none⟩) 4 4] ((v0.setCell ⟨w2.heap.size, 0, none⟩ (.int .i64 a0)).alloc (.cells #[.string ⟨#[118, 120]⟩, .string ⟨#[118, 121]⟩, .string ⟨#[115, 112, 105, 110]⟩, .string ⟨#[99, 97, 108, 109]⟩] 9)) (FindP (v0.setCell ⟨w2.heap.size, 0, none⟩ (.int .i64 a0)) (bfindF (ks.map Kd.p) sMotion nMotion)) := find_lit HH0_.out sMotion nMotion
      rw [show (v0.setCell ⟨w2.heap.size, 0, none⟩ (.int .i64 a0)).heap.size = v0.heap.size from by simp [World.setCell]] at hf1
      generalize hg1 : bfindF (ks.map Kd.p) sMotion nMotion = r1 at *
      obtain ⟨a1, e1⟩ := r1
      have HF1 := Lib.hid hf1
      clear hf1
      go_wp2_with fail
      refine HF1.out.mono ?_
      rintro e v1 ⟨rfl, hbv⟩
      replace hbv : Below v0.heap.size (v0.setCell ⟨w2.heap.size, 0, none⟩ (.int .i64 a0)) v1 := by
        have h9 := hbv
        rw [show (v0.setCell ⟨w2.heap.size, 0, none⟩ (.int .i64 a0)).heap.size = v0.heap.size from by simp [World.setCell]] at h9
        exact h9
      have HVM : Hid (Bk v1 w2.heap.size 24 #[.int .i64 a0, .int .i64 0, .int .i64 0]) := Lib.hid (HM0_.out.below hbv (by have := HM0_.out.lt; rw [show (v0.setCell ⟨w2.heap.size, 0, none⟩ (.int .i64 a0)).heap.size = v0.heap.size from by simp [World.setCell]] at this; omega))
      have HVK : Hid (Bk v1 w.heap.size 24 #[.int .i64 0, .int .i64 0, .int .i64 0]) := Lib.hid (HK0_.out.below hbv (by have := HK0_.out.lt; rw [show (v0.setCell ⟨w2.heap.size, 0, none⟩ (.int .i64 a0)).heap.size = v0.heap.size from by simp [World.setCell]] at this; omega))
      have HVB : Hid (Below w.heap.size w v1) := Lib.hid (HB0_.out.trans (hbv.mono (by have := HZ2.out; have := HM0_.out.lt; rw [show (v0.setCell ⟨w2.heap.size, 0, none⟩ (.int .i64 a0)).heap.size = v0.heap.size from by simp [World.setCell]] at this; omega)))
      have HVH : Hid (KsOk v1 B A n c ks) := Lib.hid (HH0_.out.below (hbv.mono (by have := HH0_.out.lo; rw [show (v0.setCell ⟨w2.heap.size, 0, none⟩ (.int .i64 a0)).heap.size = v0.heap.size from by simp [World.setCell]] at this; omega)))
      clear hbv
      have HM1_ : Hid (Bk (v1.setCell ⟨w2.heap.size, 1, none⟩ (.int .i64 a1)) w2.heap.size 24 #[.int .i64 a0, .int .i64 a1, .int .i64 0]) := Lib.hid (HVM.out.set_ 1 (.int .i64 a1))
      have HK1_ : Hid (Bk (v1.setCell ⟨w2.heap.size, 1, none⟩ (.int .i64 a1)) w.heap.size 24 #[.int .i64 0, .int .i64 0, .int .i64 0]) := Lib.hid (HVK.out.far (by show w.heap.size ≠ w2.heap.size; have := HZ2.out; omega) _)
      have HB1_ : Hid (Below w.heap.size w (v1.setCell ⟨w2.heap.size, 1, none⟩ (.int .i64 a1))) := Lib.hid (HVB.out.setCell (p := ⟨w2.heap.size, 1, none⟩) (by show w.heap.size ≤ w2.heap.size; have := HZ2.out; omega) _)
      have HH1_ : Hid (KsOk (v1.setCell ⟨w2.heap.size, 1, none⟩ (.int .i64 a1)) B A n c ks) := Lib.hid (HVH.out.below ((Below.refl w.heap.size v1).setCell (p := ⟨w2.heap.size, 1, none⟩) (by show w.heap.size ≤ w2.heap.size; have := HZ2.out; omega) _ |>.mono h.lo))
      have m1 : v1.cell? ⟨w2.heap.size, 1, none⟩ = some (.int .i64 0) := HVM.out.cell 1
      have mf1 := HVM.out.frozen 1
      clear HVM HVK HVB HVH
      by_cases he1 : e1 = 0
      · subst he1
        have HR2' := HR2.out
        rw [if_neg (by simp)] at HR2'
        clear HR2
        have HR2 := Lib.hid HR2'
        clear HR2'
        have hf2 : Calls Try.prog 95 #[.slice A n c, .string ⟨#[115, 104, 97, 112, 101]⟩, .slice (some ⟨(v1.setCell ⟨w2.heap.size, 1, none⟩ (.int .i64 a1)).heap.size, 0, none⟩) 5 5] ((v1.setCell ⟨w2.heap.size, 1, none⟩ (.int .i64 a1)).alloc (.cells #[.string ⟨#[119]⟩, .string ⟨#[104]⟩, .string ⟨#[109, 97, 115, 115]⟩, .string ⟨#[98, 111, 117, 110, 99, 101]⟩, .string ⟨#[114, 117, 98]⟩] 9)) (FindP (v1.setCell ⟨w2.heap.size, 1, none⟩ (.int .i64 a1)) (bfindF (ks.map Kd.p) sShape nShape)) := find_lit HH1_.out sShape nShape
        rw [show (v1.setCell ⟨w2.heap.size, 1, none⟩ (.int .i64 a1)).heap.size = v1.heap.size from by simp [World.setCell]] at hf2
        generalize hg2 : bfindF (ks.map Kd.p) sShape nShape = r2 at *
        obtain ⟨a2, e2⟩ := r2
        have HF2 := Lib.hid hf2
        clear hf2
        go_wp2_with fail
        refine HF2.out.mono ?_
        rintro e v2 ⟨rfl, hbv⟩
        replace hbv : Below v1.heap.size (v1.setCell ⟨w2.heap.size, 1, none⟩ (.int .i64 a1)) v2 := by
          have h9 := hbv
          rw [show (v1.setCell ⟨w2.heap.size, 1, none⟩ (.int .i64 a1)).heap.size = v1.heap.size from by simp [World.setCell]] at h9
          exact h9
        have HVM : Hid (Bk v2 w2.heap.size 24 #[.int .i64 a0, .int .i64 a1, .int .i64 0]) := Lib.hid (HM1_.out.below hbv (by have := HM1_.out.lt; rw [show (v1.setCell ⟨w2.heap.size, 1, none⟩ (.int .i64 a1)).heap.size = v1.heap.size from by simp [World.setCell]] at this; omega))
        have HVK : Hid (Bk v2 w.heap.size 24 #[.int .i64 0, .int .i64 0, .int .i64 0]) := Lib.hid (HK1_.out.below hbv (by have := HK1_.out.lt; rw [show (v1.setCell ⟨w2.heap.size, 1, none⟩ (.int .i64 a1)).heap.size = v1.heap.size from by simp [World.setCell]] at this; omega))
        have HVB : Hid (Below w.heap.size w v2) := Lib.hid (HB1_.out.trans (hbv.mono (by have := HZ2.out; have := HM1_.out.lt; rw [show (v1.setCell ⟨w2.heap.size, 1, none⟩ (.int .i64 a1)).heap.size = v1.heap.size from by simp [World.setCell]] at this; omega)))
        have HVH : Hid (KsOk v2 B A n c ks) := Lib.hid (HH1_.out.below (hbv.mono (by have := HH1_.out.lo; rw [show (v1.setCell ⟨w2.heap.size, 1, none⟩ (.int .i64 a1)).heap.size = v1.heap.size from by simp [World.setCell]] at this; omega)))
        clear hbv
        have HM2_ : Hid (Bk (v2.setCell ⟨w2.heap.size, 2, none⟩ (.int .i64 a2)) w2.heap.size 24 #[.int .i64 a0, .int .i64 a1, .int .i64 a2]) := Lib.hid (HVM.out.set_ 2 (.int .i64 a2))
        have HK2_ : Hid (Bk (v2.setCell ⟨w2.heap.size, 2, none⟩ (.int .i64 a2)) w.heap.size 24 #[.int .i64 0, .int .i64 0, .int .i64 0]) := Lib.hid (HVK.out.far (by show w.heap.size ≠ w2.heap.size; have := HZ2.out; omega) _)
        have HB2_ : Hid (Below w.heap.size w (v2.setCell ⟨w2.heap.size, 2, none⟩ (.int .i64 a2))) := Lib.hid (HVB.out.setCell (p := ⟨w2.heap.size, 2, none⟩) (by show w.heap.size ≤ w2.heap.size; have := HZ2.out; omega) _)
        have HH2_ : Hid (KsOk (v2.setCell ⟨w2.heap.size, 2, none⟩ (.int .i64 a2)) B A n c ks) := Lib.hid (HVH.out.below ((Below.refl w.heap.size v2).setCell (p := ⟨w2.heap.size, 2, none⟩) (by show w.heap.size ≤ w2.heap.size; have := HZ2.out; omega) _ |>.mono h.lo))
        have m2 : v2.cell? ⟨w2.heap.size, 2, none⟩ = some (.int .i64 0) := HVM.out.cell 2
        have mf2 := HVM.out.frozen 2
        clear HVM HVK HVB HVH
        by_cases he2 : e2 = 0
        · subst he2
          have HR2' := HR2.out
          rw [if_neg (by simp)] at HR2'
          clear HR2
          have HR2 := Lib.hid HR2'
          clear HR2'
          have q0 : (v2.setCell ⟨w2.heap.size, 2, none⟩ (.int .i64 a2)).cell? ⟨w.heap.size, 0, none⟩ = some (.int .i64 0) := HK2_.out.cell 0
          have q1 : (v2.setCell ⟨w2.heap.size, 2, none⟩ (.int .i64 a2)).cell? ⟨w.heap.size, 1, none⟩ = some (.int .i64 0) := HK2_.out.cell 1
          have q2 : (v2.setCell ⟨w2.heap.size, 2, none⟩ (.int .i64 a2)).cell? ⟨w.heap.size, 2, none⟩ = some (.int .i64 0) := HK2_.out.cell 2
          have g0 := HK2_.out.frozen 0
          have g1 := HK2_.out.frozen 1
          have g2 := HK2_.out.frozen 2
          have n0 : (v2.setCell ⟨w2.heap.size, 2, none⟩ (.int .i64 a2)).cell? ⟨w2.heap.size, 0, none⟩ = some (.int .i64 a0) := HM2_.out.cell 0
          have n1 : (v2.setCell ⟨w2.heap.size, 2, none⟩ (.int .i64 a2)).cell? ⟨w2.heap.size, 1, none⟩ = some (.int .i64 a1) := HM2_.out.cell 1
          have n2 : (v2.setCell ⟨w2.heap.size, 2, none⟩ (.int .i64 a2)).cell? ⟨w2.heap.size, 2, none⟩ = some (.int .i64 a2) := HM2_.out.cell 2
          go_wp2_with fail
          (try simp only [Exit.inBlock, Exit.then])
          refine bodyPost_ret (v := .tuple #[.agg #[.int .i64 a0, .int .i64 a1, .int .i64 a2], .int .i64 0]) ?_ rfl ⟨by rw [HR2.out], ?_⟩
          · rw [results_cell_tmp rfl]
            go_simp
          · exact ((HB2_.out.setCell (p := ⟨w.heap.size, 0, none⟩) (Nat.le_refl _) _).setCell (p := ⟨w.heap.size, 1, none⟩) (Nat.le_refl _) _).setCell (p := ⟨w.heap.size, 2, none⟩) (Nat.le_refl _) _
        · have heb : (e2 != 0) = true := by simp [he2]
          have hR9 := HR2.out
          rw [if_pos (by exact he2)] at hR9
          have q0 : (v2.setCell ⟨w2.heap.size, 2, none⟩ (.int .i64 a2)).cell? ⟨w.heap.size, 0, none⟩ = some (.int .i64 0) := HK2_.out.cell 0
          have q1 : (v2.setCell ⟨w2.heap.size, 2, none⟩ (.int .i64 a2)).cell? ⟨w.heap.size, 1, none⟩ = some (.int .i64 0) := HK2_.out.cell 1
          have q2 : (v2.setCell ⟨w2.heap.size, 2, none⟩ (.int .i64 a2)).cell? ⟨w.heap.size, 2, none⟩ = some (.int .i64 0) := HK2_.out.cell 2
          have g0 := HK2_.out.frozen 0
          have g1 := HK2_.out.frozen 1
          have g2 := HK2_.out.frozen 2
          go_wp2_with fail
          (try simp only [Exit.inBlock, Exit.then])
          refine bodyPost_ret (v := .tuple #[.agg #[.int .i64 0, .int .i64 0, .int .i64 0], .int .i64 e2]) ?_ rfl ⟨by rw [hR9], ?_⟩
          · rw [results_cell_tmp rfl]
            go_simp
          · exact ((HB2_.out.setCell (p := ⟨w.heap.size, 0, none⟩) (Nat.le_refl _) _).setCell (p := ⟨w.heap.size, 1, none⟩) (Nat.le_refl _) _).setCell (p := ⟨w.heap.size, 2, none⟩) (Nat.le_refl _) _
      · have heb : (e1 != 0) = true := by simp [he1]
        have hR9 := HR2.out
        rw [if_pos (by exact he1)] at hR9
        have q0 : (v1.setCell ⟨w2.heap.size, 1, none⟩ (.int .i64 a1)).cell? ⟨w.heap.size, 0, none⟩ = some (.int .i64 0) := HK1_.out.cell 0
        have q1 : (v1.setCell ⟨w2.heap.size, 1, none⟩ (.int .i64 a1)).cell? ⟨w.heap.size, 1, none⟩ = some (.int .i64 0) := HK1_.out.cell 1
        have q2 : (v1.setCell ⟨w2.heap.size, 1, none⟩ (.int .i64 a1)).cell? ⟨w.heap.size, 2, none⟩ = some (.int .i64 0) := HK1_.out.cell 2
        have g0 := HK1_.out.frozen 0
        have g1 := HK1_.out.frozen 1
        have g2 := HK1_.out.frozen 2
        go_wp2_with fail
        (try simp only [Exit.inBlock, Exit.then])
        refine bodyPost_ret (v := .tuple #[.agg #[.int .i64 0, .int .i64 0, .int .i64 0], .int .i64 e1]) ?_ rfl ⟨by rw [hR9], ?_⟩
        · rw [results_cell_tmp rfl]
          go_simp
        · exact ((HB1_.out.setCell (p := ⟨w.heap.size, 0, none⟩) (Nat.le_refl _) _).setCell (p := ⟨w.heap.size, 1, none⟩) (Nat.le_refl _) _).setCell (p := ⟨w.heap.size, 2, none⟩) (Nat.le_refl _) _
    · have heb : (e0 != 0) = true := by simp [he0]
      have hR9 := HR2.out
      rw [if_pos (by exact he0)] at hR9
      have q0 : (v0.setCell ⟨w2.heap.size, 0, none⟩ (.int .i64 a0)).cell? ⟨w.heap.size, 0, none⟩ = some (.int .i64 0) := HK0_.out.cell 0
      have q1 : (v0.setCell ⟨w2.heap.size, 0, none⟩ (.int .i64 a0)).cell? ⟨w.heap.size, 1, none⟩ = some (.int .i64 0) := HK0_.out.cell 1
      have q2 : (v0.setCell ⟨w2.heap.size, 0, none⟩ (.int .i64 a0)).cell? ⟨w.heap.size, 2, none⟩ = some (.int .i64 0) := HK0_.out.cell 2
      have g0 := HK0_.out.frozen 0
      have g1 := HK0_.out.frozen 1
      have g2 := HK0_.out.frozen 2
      go_wp2_with fail
      (try simp only [Exit.inBlock, Exit.then])
      refine bodyPost_ret (v := .tuple #[.agg #[.int .i64 0, .int .i64 0, .int .i64 0], .int .i64 e0]) ?_ rfl ⟨by rw [hR9], ?_⟩
      · rw [results_cell_tmp rfl]
        go_simp
      · exact ((HB0_.out.setCell (p := ⟨w.heap.size, 0, none⟩) (Nat.le_refl _) _).setCell (p := ⟨w.heap.size, 1, none⟩) (Nat.le_refl _) _).setCell (p := ⟨w.heap.size, 2, none⟩) (Nat.le_refl _) _
  · have hcb : (cv != 0) = true := by simp [hc0]
    have hR2 := HR.out
    rw [ofF, if_pos (by rw [hcv]; exact hc0), hcv] at hR2
    have q0 := HK2.out.cell 0
    have q1 := HK2.out.cell 1
    have q2 := HK2.out.cell 2
    have g0 := HK2.out.frozen 0
    have g1 := HK2.out.frozen 1
    have g2 := HK2.out.frozen 2
    replace q0 : w2.cell? ⟨w.heap.size, 0, none⟩ = some (.int .i64 0) := q0
    replace q1 : w2.cell? ⟨w.heap.size, 1, none⟩ = some (.int .i64 0) := q1
    replace q2 : w2.cell? ⟨w.heap.size, 2, none⟩ = some (.int .i64 0) := q2
    go_wp2_with fail
    (try simp only [Exit.inBlock, Exit.then])
    refine bodyPost_ret (v := .tuple #[.agg #[.int .i64 0, .int .i64 0, .int .i64 0], .int .i64 cv]) ?_ rfl ⟨by rw [hR2], ?_⟩
    · rw [results_cell_tmp rfl]
      go_simp
    · exact ((HB2.out.setCell (p := ⟨w.heap.size, 0, none⟩) (Nat.le_refl _) _).setCell (p := ⟨w.heap.size, 1, none⟩) (Nat.le_refl _) _).setCell (p := ⟨w.heap.size, 2, none⟩) (Nat.le_refl _) _
end Go.Proofs.Ytnidcmhfbkdioaa
