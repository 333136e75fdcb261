/-
  The contract of Special. Conditions: what is read can be read.
-/
import Derived.Test.YtnidcmhfbkdioaaKj
import Derived.Laws.ResultCell
namespace Go.Proofs.Ytnidcmhfbkdioaa
open Go.RowKit
set_option maxRecDepth 100000

def sp0 : ByteArray × List ByteArray := (⟨#[112, 108, 97, 99, 101]⟩, [⟨#[120]⟩, ⟨#[121]⟩, ⟨#[97, 110, 103]⟩])
def sp1 : ByteArray × List ByteArray := (⟨#[109, 111, 116, 105, 111, 110]⟩, [⟨#[118, 120]⟩, ⟨#[118, 121]⟩, ⟨#[115, 112, 105, 110]⟩, ⟨#[99, 97, 108, 109]⟩])
def sp2 : ByteArray × List ByteArray := (⟨#[115, 104, 97, 112, 101]⟩, [⟨#[119]⟩, ⟨#[104]⟩, ⟨#[109, 97, 115, 115]⟩, ⟨#[98, 111, 117, 110, 99, 101]⟩, ⟨#[114, 117, 98]⟩])
def sp3 : ByteArray × List ByteArray := (⟨#[105, 110, 112, 117, 116]⟩, [⟨#[112, 108, 97, 121, 101, 114]⟩, ⟨#[107, 101, 121, 115]⟩, ⟨#[120]⟩, ⟨#[121]⟩])
def sp4 : ByteArray × List ByteArray := (⟨#[109, 105, 110, 100]⟩, [⟨#[112, 114, 111, 103]⟩])

def NamedP (w : World) (r : Int × Bool) (e : Ending) (w' : World) : Prop := e = .returned (.tuple #[.int .i64 r.1, .bool r.2]) ∧ Below w.heap.size w w'
theorem named_lit {w : World} {B n c : Nat} {A : Option Addr} {ks : List Kd} (h : KsOk w B A n c ks) (hsm : ∀ k ∈ ks, k.n ≤ 1048576) (nm : ByteArray) (ns : List ByteArray) :
    Calls Try.prog 154 #[.slice A n c, .string nm, .slice (some ⟨w.heap.size, 0, none⟩) ns.length ns.length] (w.alloc (.cells (strV ns).toArray 9)) (NamedP w (namedF (ks.map Kd.p) nm ns)) := by
  have hb := (Below.refl w.heap.size w).alloc (Nat.le_refl _) (.cells (strV ns).toArray 9)
  have h2 := (h.below (hb.mono h.lo)).more (B' := w.heap.size + 1) (by have := h.lo; omega) (by simp)
  have hl := Rd.lit w (strV ns) 9
  rw [show (strV ns).length = ns.length by simp [strV]] at hl
  exact (named_any A (some ⟨w.heap.size, 0, none⟩) n c ns.length ns.length (w.heap.size + 1) ks nm ns _ h2.rd h2.len h2.cap h2.cap2 h2.ok hsm hl rfl h2.lo).mono fun e w' hh => ⟨hh.1, hb.trans (hh.2.mono (by simp))⟩

/-- The state between two calls: the kinds, and the two arrays of the call's own. -/
structure SpSt (w v : World) (B : Nat) (A : Option Addr) (n c : Nat) (ks : List Kd) (x y : Array Value) : Prop where
  ks : KsOk v B A n c ks
  bx : Bk v w.heap.size 141 x
  ly : Bk v (w.heap.size + 1) 142 y
  bl : Below w.heap.size w v
  lo : B ≤ w.heap.size
theorem SpSt.next {w v v' : World} {B n c : Nat} {A : Option Addr} {ks : List Kd} {x y : Array Value} (h : SpSt w v B A n c ks x y) (hb : Below v.heap.size v v') : SpSt w v' B A n c ks x y :=
  ⟨h.ks.below (hb.mono h.ks.lo), h.bx.below hb h.bx.lt, h.ly.below hb h.ly.lt, h.bl.trans (hb.mono h.bl.size), h.lo⟩
theorem SpSt.put {w v : World} {B n c : Nat} {A : Option Addr} {ks : List Kd} {x y : Array Value} (h : SpSt w v B A n c ks x y) (i : Nat) (a b : Value) :
    SpSt w ((v.setCell ⟨w.heap.size, i, none⟩ a).setCell ⟨w.heap.size + 1, i, none⟩ b) B A n c ks (x.setIfInBounds i a) (y.setIfInBounds i b) := by
  have hb : Below w.heap.size v ((v.setCell ⟨w.heap.size, i, none⟩ a).setCell ⟨w.heap.size + 1, i, none⟩ b) :=
    ((Below.refl w.heap.size v).setCell (p := ⟨w.heap.size, i, none⟩) (Nat.le_refl _) _).setCell (p := ⟨w.heap.size + 1, i, none⟩) (Nat.le_succ _) _
  exact ⟨h.ks.below (hb.mono h.lo), (h.bx.set_ i a).far (by show w.heap.size ≠ w.heap.size + 1; omega) _, (h.ly.far (by show w.heap.size + 1 ≠ w.heap.size; omega) _).set_ i b, h.bl.trans hb, h.lo⟩
theorem SpSt.start {w : World} {B n c : Nat} {A : Option Addr} {ks : List Kd} (h : KsOk w B A n c ks) (x y : Array Value) : SpSt w ((w.alloc (.cells x 141)).alloc (.cells y 142)) B A n c ks x y := by
  have hb := ((Below.refl w.heap.size w).alloc (Nat.le_refl _) (.cells x 141)).alloc (by simp) (.cells y 142)
  exact ⟨h.below (hb.mono h.lo), (Bk.new w 141 x).alloc _, Bk.new2 w _ 142 y, hb, h.lo⟩

theorem results_cell_cell {fn : Func} {p q : Tmp} {ty tz : TypeId} (h : fn.results = #[.cell p ty, .cell q tz]) (tmps : Array Value) (P : Program) (w : World) :
    (results fn tmps).run P w =
      ((asAddr (tmps.getD p undef)).run P w).andThen fun a w₁ => ((loadVar ty a).run P w₁).andThen fun v w₂ =>
        ((asAddr (tmps.getD q undef)).run P w₂).andThen fun a w₃ => ((loadVar tz a).run P w₃).andThen fun u w₄ => .ok (.tuple #[v, u]) w₄ := by
  simp only [results, h]
  simp [Sem.run_bind, Result.andThen]
def spec (ks : List (ByteArray × List Fd)) (s : ByteArray × List ByteArray) : Int × Bool := namedF ks s.1 s.2
def spX (ks : List (ByteArray × List Fd)) : Value := .agg #[.int .i64 (spec ks sp0).1, .int .i64 (spec ks sp1).1, .int .i64 (spec ks sp2).1, .int .i64 (spec ks sp3).1, .int .i64 (spec ks sp4).1]
def spY (ks : List (ByteArray × List Fd)) : Value := .agg #[.bool (spec ks sp0).2, .bool (spec ks sp1).2, .bool (spec ks sp2).2, .bool (spec ks sp3).2, .bool (spec ks sp4).2]
def SpecP (w : World) (ks : List (ByteArray × List Fd)) (e : Ending) (w' : World) : Prop := e = .returned (.tuple #[spX ks, spY ks]) ∧ Below w.heap.size w w'

set_option maxHeartbeats 1600000 in
theorem special_any {w : World} {B n c : Nat} {A : Option Addr} {ks : List Kd} (h : KsOk w B A n c ks) (hsm : ∀ k ∈ ks, k.n ≤ 1048576) : Calls Try.prog 67 #[.slice A n c] w (SpecP w (ks.map Kd.p)) := by
  obtain ⟨w0, hw0⟩ : ∃ w0, w0 = (w.alloc (.cells #[.int .i64 0, .int .i64 0, .int .i64 0, .int .i64 0, .int .i64 0] 141)).alloc (.cells #[.bool false, .bool false, .bool false, .bool false, .bool false] 142) := ⟨_, rfl⟩
  have HS0 : Hid (SpSt w w0 B A n c ks #[.int .i64 0, .int .i64 0, .int .i64 0, .int .i64 0, .int .i64 0] #[.bool false, .bool false, .bool false, .bool false, .bool false]) := Lib.hid (by rw [hw0]; exact SpSt.start h _ _)
  have HSM := Lib.hid hsm
  clear hsm
  unfold SpecP spX spY
  generalize hr0 : spec (ks.map Kd.p) sp0 = r0
  obtain ⟨a0, b0⟩ := r0
  generalize hr1 : spec (ks.map Kd.p) sp1 = r1
  obtain ⟨a1, b1⟩ := r1
  generalize hr2 : spec (ks.map Kd.p) sp2 = r2
  obtain ⟨a2, b2⟩ := r2
  generalize hr3 : spec (ks.map Kd.p) sp3 = r3
  obtain ⟨a3, b3⟩ := r3
  generalize hr4 : spec (ks.map Kd.p) sp4 = r4
  obtain ⟨a4, b4⟩ := r4
  go_enter Try.func67, Try.ntmps67
  have hf : Calls Try.prog 154 #[.slice A n c, .string ⟨#[112, 108, 97, 99, 101]⟩, .slice (some ⟨(w0).heap.size, 0, none⟩) 3 3] ((w0).alloc (.cells #[.string ⟨#[120]⟩, .string ⟨#[121]⟩, .string ⟨#[97, 110, 103]⟩] 9)) (NamedP (w0) (a0, b0)) := by
    have h9 := named_lit HS0.out.ks HSM.out sp0.1 sp0.2
    rw [show namedF (ks.map Kd.p) sp0.1 sp0.2 = (a0, b0) from hr0] at h9
    exact h9
  have HW0 := Lib.hid hw0
  have HF0 := Lib.hid hf
  clear hf hr0
  clear hw0
  go_wp2_with fail
  rw [← HW0.out]
  rw [show w.heap.size + 1 + 1 = w0.heap.size from by rw [HW0.out]; simp]
  refine HF0.out.mono ?_
  rintro e v0 ⟨rfl, hbv⟩
  have HV0 := Lib.hid (HS0.out.next hbv)
  clear hbv HS0 HF0
  have m0 : v0.cell? ⟨w.heap.size, 0, none⟩ = some (.int .i64 0) := HV0.out.bx.cell 0
  have mf0 := HV0.out.bx.frozen 0
  have my0 : (v0.setCell ⟨w.heap.size, 0, none⟩ (.int .i64 a0)).cell? ⟨w.heap.size + 1, 0, none⟩ = some (.bool false) := (HV0.out.ly.far (by show w.heap.size + 1 ≠ w.heap.size; omega) _).cell 0
  have myf0 : (v0.setCell ⟨w.heap.size, 0, none⟩ (.int .i64 a0)).frozen? ⟨w.heap.size + 1, 0, none⟩ = false := (HV0.out.ly.far (by show w.heap.size + 1 ≠ w.heap.size; omega) _).frozen 0
  have HS1 : Hid (SpSt w ((v0.setCell ⟨w.heap.size, 0, none⟩ (.int .i64 a0)).setCell ⟨w.heap.size + 1, 0, none⟩ (.bool b0)) B A n c ks #[.int .i64 a0, .int .i64 0, .int .i64 0, .int .i64 0, .int .i64 0] #[.bool b0, .bool false, .bool false, .bool false, .bool false]) := Lib.hid (HV0.out.put 0 (.int .i64 a0) (.bool b0))
  have hf : Calls Try.prog 154 #[.slice A n c, .string ⟨#[109, 111, 116, 105, 111, 110]⟩, .slice (some ⟨((v0.setCell ⟨w.heap.size, 0, none⟩ (.int .i64 a0)).setCell ⟨w.heap.size + 1, 0, none⟩ (.bool b0)).heap.size, 0, none⟩) 4 4] (((v0.setCell ⟨w.heap.size, 0, none⟩ (.int .i64 a0)).setCell ⟨w.heap.size + 1, 0, none⟩ (.bool b0)).alloc (.cells #[.string ⟨#[118, 120]⟩, .string ⟨#[118, 121]⟩, .string ⟨#[115, 112, 105, 110]⟩, .string ⟨#[99, 97, 108, 109]⟩] 9)) (NamedP ((v0.setCell ⟨w.heap.size, 0, none⟩ (.int .i64 a0)).setCell ⟨w.heap.size + 1, 0, none⟩ (.bool b0)) (a1, b1)) := by
    have h9 := named_lit HS1.out.ks HSM.out sp1.1 sp1.2
    rw [show namedF (ks.map Kd.p) sp1.1 sp1.2 = (a1, b1) from hr1] at h9
    exact h9
  rw [show ((v0.setCell ⟨w.heap.size, 0, none⟩ (.int .i64 a0)).setCell ⟨w.heap.size + 1, 0, none⟩ (.bool b0)).heap.size = v0.heap.size from by simp [World.setCell]] at hf
  have HF1 := Lib.hid hf
  clear hf hr1
  go_wp2_with fail
  refine HF1.out.mono ?_
  rintro e v1 ⟨rfl, hbv⟩
  have HV1 := Lib.hid (HS1.out.next hbv)
  clear hbv HS1 HF1
  have m1 : v1.cell? ⟨w.heap.size, 1, none⟩ = some (.int .i64 0) := HV1.out.bx.cell 1
  have mf1 := HV1.out.bx.frozen 1
  have my1 : (v1.setCell ⟨w.heap.size, 1, none⟩ (.int .i64 a1)).cell? ⟨w.heap.size + 1, 1, none⟩ = some (.bool false) := (HV1.out.ly.far (by show w.heap.size + 1 ≠ w.heap.size; omega) _).cell 1
  have myf1 : (v1.setCell ⟨w.heap.size, 1, none⟩ (.int .i64 a1)).frozen? ⟨w.heap.size + 1, 1, none⟩ = false := (HV1.out.ly.far (by show w.heap.size + 1 ≠ w.heap.size; omega) _).frozen 1
  have HS2 : Hid (SpSt w ((v1.setCell ⟨w.heap.size, 1, none⟩ (.int .i64 a1)).setCell ⟨w.heap.size + 1, 1, none⟩ (.bool b1)) B A n c ks #[.int .i64 a0, .int .i64 a1, .int .i64 0, .int .i64 0, .int .i64 0] #[.bool b0, .bool b1, .bool false, .bool false, .bool false]) := Lib.hid (HV1.out.put 1 (.int .i64 a1) (.bool b1))
  have hf : Calls Try.prog 154 #[.slice A n c, .string ⟨#[115, 104, 97, 112, 101]⟩, .slice (some ⟨((v1.setCell ⟨w.heap.size, 1, none⟩ (.int .i64 a1)).setCell ⟨w.heap.size + 1, 1, none⟩ (.bool b1)).heap.size, 0, none⟩) 5 5] (((v1.setCell ⟨w.heap.size, 1, none⟩ (.int .i64 a1)).setCell ⟨w.heap.size + 1, 1, none⟩ (.bool b1)).alloc (.cells #[.string ⟨#[119]⟩, .string ⟨#[104]⟩, .string ⟨#[109, 97, 115, 115]⟩, .string ⟨#[98, 111, 117, 110, 99, 101]⟩, .string ⟨#[114, 117, 98]⟩] 9)) (NamedP ((v1.setCell ⟨w.heap.size, 1, none⟩ (.int .i64 a1)).setCell ⟨w.heap.size + 1, 1, none⟩ (.bool b1)) (a2, b2)) := by
    have h9 := named_lit HS2.out.ks HSM.out sp2.1 sp2.2
    rw [show namedF (ks.map Kd.p) sp2.1 sp2.2 = (a2, b2) from hr2] at h9
    exact h9
  rw [show ((v1.setCell ⟨w.heap.size, 1, none⟩ (.int .i64 a1)).setCell ⟨w.heap.size + 1, 1, none⟩ (.bool b1)).heap.size = v1.heap.size from by simp [World.setCell]] at hf
  have HF2 := Lib.hid hf
  clear hf hr2
  go_wp2_with fail
  refine HF2.out.mono ?_
  rintro e v2 ⟨rfl, hbv⟩
  have HV2 := Lib.hid (HS2.out.next hbv)
  clear hbv HS2 HF2
  have m2 : v2.cell? ⟨w.heap.size, 2, none⟩ = some (.int .i64 0) := HV2.out.bx.cell 2
  have mf2 := HV2.out.bx.frozen 2
  have my2 : (v2.setCell ⟨w.heap.size, 2, none⟩ (.int .i64 a2)).cell? ⟨w.heap.size + 1, 2, none⟩ = some (.bool false) := (HV2.out.ly.far (by show w.heap.size + 1 ≠ w.heap.size; omega) _).cell 2
  have myf2 : (v2.setCell ⟨w.heap.size, 2, none⟩ (.int .i64 a2)).frozen? ⟨w.heap.size + 1, 2, none⟩ = false := (HV2.out.ly.far (by show w.heap.size + 1 ≠ w.heap.size; omega) _).frozen 2
  have HS3 : Hid (SpSt w ((v2.setCell ⟨w.heap.size, 2, none⟩ (.int .i64 a2)).setCell ⟨w.heap.size + 1, 2, none⟩ (.bool b2)) B A n c ks #[.int .i64 a0, .int .i64 a1, .int .i64 a2, .int .i64 0, .int .i64 0] #[.bool b0, .bool b1, .bool b2, .bool false, .bool false]) := Lib.hid (HV2.out.put 2 (.int .i64 a2) (.bool b2))
  have hf : Calls Try.prog 154 #[.slice A n c, .string ⟨#[105, 110, 112, 117, 116]⟩, .slice (some ⟨((v2.setCell ⟨w.heap.size, 2, none⟩ (.int .i64 a2)).setCell ⟨w.heap.size + 1, 2, none⟩ (.bool b2)).heap.size, 0, none⟩) 4 4] (((v2.setCell ⟨w.heap.size, 2, none⟩ (.int .i64 a2)).setCell ⟨w.heap.size + 1, 2, none⟩ (.bool b2)).alloc (.cells #[.string ⟨#[112, 108, 97, 121, 101, 114]⟩, .string ⟨#[107, 101, 121, 115]⟩, .string ⟨#[120]⟩, .string ⟨#[121]⟩] 9)) (NamedP ((v2.setCell ⟨w.heap.size, 2, none⟩ (.int .i64 a2)).setCell ⟨w.heap.size + 1, 2, none⟩ (.bool b2)) (a3, b3)) := by
    have h9 := named_lit HS3.out.ks HSM.out sp3.1 sp3.2
    rw [show namedF (ks.map Kd.p) sp3.1 sp3.2 = (a3, b3) from hr3] at h9
    exact h9
  rw [show ((v2.setCell ⟨w.heap.size, 2, none⟩ (.int .i64 a2)).setCell ⟨w.heap.size + 1, 2, none⟩ (.bool b2)).heap.size = v2.heap.size from by simp [World.setCell]] at hf
  have HF3 := Lib.hid hf
  clear hf hr3
  go_wp2_with fail
  refine HF3.out.mono ?_
  rintro e v3 ⟨rfl, hbv⟩
  have HV3 := Lib.hid (HS3.out.next hbv)
  clear hbv HS3 HF3
  have m3 : v3.cell? ⟨w.heap.size, 3, none⟩ = some (.int .i64 0) := HV3.out.bx.cell 3
  have mf3 := HV3.out.bx.frozen 3
  have my3 : (v3.setCell ⟨w.heap.size, 3, none⟩ (.int .i64 a3)).cell? ⟨w.heap.size + 1, 3, none⟩ = some (.bool false) := (HV3.out.ly.far (by show w.heap.size + 1 ≠ w.heap.size; omega) _).cell 3
  have myf3 : (v3.setCell ⟨w.heap.size, 3, none⟩ (.int .i64 a3)).frozen? ⟨w.heap.size + 1, 3, none⟩ = false := (HV3.out.ly.far (by show w.heap.size + 1 ≠ w.heap.size; omega) _).frozen 3
  have HS4 : Hid (SpSt w ((v3.setCell ⟨w.heap.size, 3, none⟩ (.int .i64 a3)).setCell ⟨w.heap.size + 1, 3, none⟩ (.bool b3)) B A n c ks #[.int .i64 a0, .int .i64 a1, .int .i64 a2, .int .i64 a3, .int .i64 0] #[.bool b0, .bool b1, .bool b2, .bool b3, .bool false]) := Lib.hid (HV3.out.put 3 (.int .i64 a3) (.bool b3))
  have hf : Calls Try.prog 154 #[.slice A n c, .string ⟨#[109, 105, 110, 100]⟩, .slice (some ⟨((v3.setCell ⟨w.heap.size, 3, none⟩ (.int .i64 a3)).setCell ⟨w.heap.size + 1, 3, none⟩ (.bool b3)).heap.size, 0, none⟩) 1 1] (((v3.setCell ⟨w.heap.size, 3, none⟩ (.int .i64 a3)).setCell ⟨w.heap.size + 1, 3, none⟩ (.bool b3)).alloc (.cells #[.string ⟨#[112, 114, 111, 103]⟩] 9)) (NamedP ((v3.setCell ⟨w.heap.size, 3, none⟩ (.int .i64 a3)).setCell ⟨w.heap.size + 1, 3, none⟩ (.bool b3)) (a4, b4)) := by
    have h9 := named_lit HS4.out.ks HSM.out sp4.1 sp4.2
    rw [show namedF (ks.map Kd.p) sp4.1 sp4.2 = (a4, b4) from hr4] at h9
    exact h9
  rw [show ((v3.setCell ⟨w.heap.size, 3, none⟩ (.int .i64 a3)).setCell ⟨w.heap.size + 1, 3, none⟩ (.bool b3)).heap.size = v3.heap.size from by simp [World.setCell]] at hf
  have HF4 := Lib.hid hf
  clear hf hr4
  go_wp2_with fail
  refine HF4.out.mono ?_
  rintro e v4 ⟨rfl, hbv⟩
  have HV4 := Lib.hid (HS4.out.next hbv)
  clear hbv HS4 HF4
  have m4 : v4.cell? ⟨w.heap.size, 4, none⟩ = some (.int .i64 0) := HV4.out.bx.cell 4
  have mf4 := HV4.out.bx.frozen 4
  have my4 : (v4.setCell ⟨w.heap.size, 4, none⟩ (.int .i64 a4)).cell? ⟨w.heap.size + 1, 4, none⟩ = some (.bool false) := (HV4.out.ly.far (by show w.heap.size + 1 ≠ w.heap.size; omega) _).cell 4
  have myf4 : (v4.setCell ⟨w.heap.size, 4, none⟩ (.int .i64 a4)).frozen? ⟨w.heap.size + 1, 4, none⟩ = false := (HV4.out.ly.far (by show w.heap.size + 1 ≠ w.heap.size; omega) _).frozen 4
  have HS5 : Hid (SpSt w ((v4.setCell ⟨w.heap.size, 4, none⟩ (.int .i64 a4)).setCell ⟨w.heap.size + 1, 4, none⟩ (.bool b4)) B A n c ks #[.int .i64 a0, .int .i64 a1, .int .i64 a2, .int .i64 a3, .int .i64 a4] #[.bool b0, .bool b1, .bool b2, .bool b3, .bool b4]) := Lib.hid (HV4.out.put 4 (.int .i64 a4) (.bool b4))
  clear HV0 HV1 HV2 HV3 HV4 m0 m1 m2 m3 mf0 mf1 mf2 mf3 my0 my1 my2 my3 myf0 myf1 myf2 myf3
  go_wp2_with fail
  clear m4 mf4 my4 myf4
  have HZ : Hid (w.heap.size ≠ w.heap.size + 1) := Lib.hid (by omega)
  generalize hv5 : (v4.setCell ⟨w.heap.size, 4, none⟩ (.int .i64 a4)).setCell ⟨w.heap.size + 1, 4, none⟩ (.bool b4) = v5 at *
  clear hv5
  have q0 : v5.cell? ⟨w.heap.size, 0, none⟩ = some (.int .i64 a0) := HS5.out.bx.cell 0
  have p0 : v5.cell? ⟨w.heap.size + 1, 0, none⟩ = some (.bool b0) := HS5.out.ly.cell 0
  have g0 : v5.frozen? ⟨w.heap.size, 0, none⟩ = false := HS5.out.bx.frozen 0
  have h0 : v5.frozen? ⟨w.heap.size + 1, 0, none⟩ = false := HS5.out.ly.frozen 0
  have q1 : v5.cell? ⟨w.heap.size, 1, none⟩ = some (.int .i64 a1) := HS5.out.bx.cell 1
  have p1 : v5.cell? ⟨w.heap.size + 1, 1, none⟩ = some (.bool b1) := HS5.out.ly.cell 1
  have g1 : v5.frozen? ⟨w.heap.size, 1, none⟩ = false := HS5.out.bx.frozen 1
  have h1 : v5.frozen? ⟨w.heap.size + 1, 1, none⟩ = false := HS5.out.ly.frozen 1
  have q2 : v5.cell? ⟨w.heap.size, 2, none⟩ = some (.int .i64 a2) := HS5.out.bx.cell 2
  have p2 : v5.cell? ⟨w.heap.size + 1, 2, none⟩ = some (.bool b2) := HS5.out.ly.cell 2
  have g2 : v5.frozen? ⟨w.heap.size, 2, none⟩ = false := HS5.out.bx.frozen 2
  have h2 : v5.frozen? ⟨w.heap.size + 1, 2, none⟩ = false := HS5.out.ly.frozen 2
  have q3 : v5.cell? ⟨w.heap.size, 3, none⟩ = some (.int .i64 a3) := HS5.out.bx.cell 3
  have p3 : v5.cell? ⟨w.heap.size + 1, 3, none⟩ = some (.bool b3) := HS5.out.ly.cell 3
  have g3 : v5.frozen? ⟨w.heap.size, 3, none⟩ = false := HS5.out.bx.frozen 3
  have h3 : v5.frozen? ⟨w.heap.size + 1, 3, none⟩ = false := HS5.out.ly.frozen 3
  have q4 : v5.cell? ⟨w.heap.size, 4, none⟩ = some (.int .i64 a4) := HS5.out.bx.cell 4
  have p4 : v5.cell? ⟨w.heap.size + 1, 4, none⟩ = some (.bool b4) := HS5.out.ly.cell 4
  have g4 : v5.frozen? ⟨w.heap.size, 4, none⟩ = false := HS5.out.bx.frozen 4
  have h4 : v5.frozen? ⟨w.heap.size + 1, 4, none⟩ = false := HS5.out.ly.frozen 4
  have hne : w.heap.size + 1 ≠ w.heap.size := by omega
  have hne' : w.heap.size ≠ w.heap.size + 1 := by omega
  go_region
  all_goals (try go_wp2)
  (try simp only [Exit.inBlock, Exit.then])
  refine bodyPost_ret (v := .tuple #[.agg #[.int .i64 a0, .int .i64 a1, .int .i64 a2, .int .i64 a3, .int .i64 a4], .agg #[.bool b0, .bool b1, .bool b2, .bool b3, .bool b4]]) ?_ rfl ⟨rfl, ?_⟩
  · rw [results_cell_cell rfl]
    go_simp
  · repeat' (first | with_reducible exact HS5.out.bl | (with_reducible refine Below.setCell ?_ ?_ _; rotate_left; (first | exact Nat.le_refl _ | exact Nat.le_succ _)) | (with_reducible refine Below.drew ?_))
end Go.Proofs.Ytnidcmhfbkdioaa
