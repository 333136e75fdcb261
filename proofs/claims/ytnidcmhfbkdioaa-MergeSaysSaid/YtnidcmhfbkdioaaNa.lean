/-
  The contracts of Kinds at 0 and of the fact on merging; worlds in blocks. Conditions: none.
-/
import Derived.Test.YtnidcmhfbkdioaaMs
namespace Go.Proofs.Ytnidcmhfbkdioaa
open Go.RowKit
set_option maxRecDepth 100000

theorem res_c1 {fn : Func} {p : Tmp} {ty : TypeId} (h : fn.results = #[.cell p ty]) (tmps : Array Value) (P : Program) (w : World) :
    (results fn tmps).run P w = ((asAddr (tmps.getD p undef)).run P w).andThen fun a w₁ => (loadVar ty a).run P w₁ := by
  simp only [results, h]
  simp [Sem.run_bind, Result.andThen]

set_option maxHeartbeats 800000 in
theorem mkField_any (nm : ByteArray) (b l : Int) (w : World) : Calls Try.prog 167 #[.string nm, .int .i64 b, .int .i64 l] w fun e w' => e = .returned (.agg #[.string nm, .int .i64 b, .int .i64 l]) ∧ Below w.heap.size w w' := by
  have hk := Bk.new w 66 #[.string ByteArray.empty, .int .i64 0, .int .i64 0]
  have q0 := hk.cell 0
  have q1 := hk.cell 1
  have q2 := hk.cell 2
  have g0 := hk.frozen 0
  have g1 := hk.frozen 1
  have g2 := hk.frozen 2
  simp only [List.getElem?_toArray, List.getElem?_cons_zero, List.getElem?_cons_succ] at q0 q1 q2
  clear hk
  go_enter Try.func167, Try.ntmps167
  go_wp2_with fail
  (try simp only [Exit.inBlock, Exit.then])
  refine bodyPost_ret (v := .agg #[.string nm, .int .i64 b, .int .i64 l]) ?_ rfl ⟨rfl, ?_⟩
  · rw [res_c1 rfl]
    go_simp
  · exact (Below.refl _ w).alloc (Nat.le_refl _) _

theorem and01 : (bits BinOp.and IntKind.i64 0 1 == 1) = false := by decide +kernel
theorem and02 : (bits BinOp.and IntKind.i64 0 2 == 2) = false := by decide +kernel
theorem and04 : (bits BinOp.and IntKind.i64 0 4 == 4) = false := by decide +kernel
def k0f : List Fd := [⟨⟨#[120]⟩, 8, (-100)⟩, ⟨⟨#[121]⟩, 8, (-100)⟩]
def k0n : ByteArray := ⟨#[115, 112, 111, 116]⟩
theorem k0_check : wcheckF (⟨[(k0n, k0f)], [0], []⟩ : Wv Kp2) = 0 := by decide +kernel

set_option maxHeartbeats 1600000 in
theorem kinds0_any (w : World) : Calls Try.prog 96 #[.int .i64 0] w fun e w' => ∃ g ks, e = .returned (.slice (some ⟨g, 0, none⟩) 1 1) ∧ Hid (KsY w' 0 (some ⟨g, 0, none⟩) 1 1 ks ∧ ks.map Kd.p = [(k0n, k0f)]) ∧ Below w.heap.size w w' := by
  have HF := Lib.hid mkField_any
  have t1 := and01
  have t2 := and02
  have t3 := and04
  go_enter Try.func96, Try.ntmps96
  go_wp2_with fail
  refine (HF.out ⟨#[120]⟩ 8 (-100) _).mono ?_
  rintro e w1 ⟨rfl, hb1⟩
  have HB1 := Lib.hid hb1
  clear hb1
  go_wp2_with fail
  refine (HF.out ⟨#[121]⟩ 8 (-100) _).mono ?_
  rintro e w2 ⟨rfl, hb2⟩
  have HB2 := Lib.hid (HB1.out.trans (hb2.mono HB1.out.size))
  clear hb2 HB1
  go_wp2_with fail
  go_ret
  have hk1 : Bk ((w2.alloc (.cells #[.string ⟨#[120]⟩, .int .i64 8, .int .i64 (-100), .string ⟨#[121]⟩, .int .i64 8, .int .i64 (-100)] 66)).alloc (.cells #[.string ⟨#[115, 112, 111, 116]⟩, .slice (some ⟨w2.heap.size, 0, none⟩) 2 2] 63)) w2.heap.size 66 (fdCs k0f).toArray := (Bk.new _ _ _).alloc _
  have hk2 : Bk ((w2.alloc (.cells #[.string ⟨#[120]⟩, .int .i64 8, .int .i64 (-100), .string ⟨#[121]⟩, .int .i64 8, .int .i64 (-100)] 66)).alloc (.cells #[.string ⟨#[115, 112, 111, 116]⟩, .slice (some ⟨w2.heap.size, 0, none⟩) 2 2] 63)) (w2.heap.size + 1) 63 (kdCs [⟨k0n, some ⟨w2.heap.size, 0, none⟩, 2, 2, k0f⟩]).toArray := Bk.two _ _ _ _
  refine ⟨w2.heap.size + 1, [⟨k0n, some ⟨w2.heap.size, 0, none⟩, 2, 2, k0f⟩], rfl, Lib.hid ⟨⟨.of_bk hk2 rfl (fun j u hu => by simpa using hu), rfl, Nat.le_refl _, by omega, fun k hk => ?_⟩, rfl⟩, ?_⟩
  · rw [List.mem_singleton.1 hk]
    exact ⟨.of_bk hk1 rfl (fun j u hu => by simpa using hu), rfl, Nat.le_refl _, by show (2 : Nat) ≤ _; omega⟩
  · exact (HB2.out.alloc HB2.out.size _).alloc (by have := HB2.out.size; simp; omega) _

/-- A world in a block. -/
def St (w : World) (b : Nat) (x : Wd) : Prop := Bk w b 52 #[.slice x.kA x.kn x.kc, .slice x.gA x.gn x.gc, .slice x.iA x.im x.ic] ∧ WdY w 0 x
theorem WdY.below {w w' : World} {x : Wd} (h : WdY w 0 x) (hb : Below w.heap.size w w') : WdY w' 0 x := h.keep (F := []) (Kx.of_below (B := 0) hb) (by simp) (by simp) (by simp) (by simp) (by simp)
theorem St.below {w w' : World} {b : Nat} {x : Wd} (h : St w b x) (hb : Below w.heap.size w w') : St w' b x := ⟨h.1.below hb h.1.lt, h.2.below hb⟩
theorem St.alloc {w : World} {b : Nat} {x : Wd} (h : St w b x) (o : Obj) : St (w.alloc o) b x := h.below ((Below.refl _ _).alloc (Nat.le_refl _) o)
theorem St.new {w : World} {x : Wd} (h : WdY w 0 x) : St (w.alloc (.cells #[.slice x.kA x.kn x.kc, .slice x.gA x.gn x.gc, .slice x.iA x.im x.ic] 52)) w.heap.size x := ⟨Bk.new _ _ _, h.below ((Below.refl _ _).alloc (Nat.le_refl _) _)⟩
theorem St.cs {w : World} {b : Nat} {x : Wd} (h : St w b x) : w.cell? ⟨b, 0, none⟩ = some (.slice x.kA x.kn x.kc) ∧ w.cell? ⟨b, 1, none⟩ = some (.slice x.gA x.gn x.gc) ∧ w.cell? ⟨b, 2, none⟩ = some (.slice x.iA x.im x.ic) := ⟨h.1.cell 0, h.1.cell 1, h.1.cell 2⟩
theorem newer_refl (x : Wv Kp2) : Newer x x := ⟨rfl, Nat.le_refl _, fun _n _ => Int.le_refl _⟩

set_option maxHeartbeats 1600000 in
theorem merges_any (w : World) : Calls Try.prog 40 #[] w fun e w' => e = .returned (.bool true) ∧ Below w.heap.size w w' := by
  have HK := Lib.hid kinds0_any
  go_enter Try.func40, Try.ntmps40
  go_wp2_with fail
  refine (HK.out _).mono ?_
  rintro e w1 ⟨g, ks, rfl, hk, hb1⟩
  obtain ⟨W, hW⟩ : ∃ W, W = (w1.alloc (.cells #[.int .i64 0] 3)).alloc (.cells #[.slice (some ⟨g, 0, none⟩) 1 1, .slice (some ⟨w1.heap.size, 0, none⟩) 1 1, .slice none 0 0] 52) := ⟨_, rfl⟩
  have hbW : Below w1.heap.size w1 W := by rw [hW]; exact Below.al (Below.al (Below.refl _ _) _) _
  have hkg : Bk W w1.heap.size 3 #[.int .i64 0] := by rw [hW]; exact (Bk.new _ _ _).alloc _
  have hkb : Bk W (w1.heap.size + 1) 52 #[.slice (some ⟨g, 0, none⟩) 1 1, .slice (some ⟨w1.heap.size, 0, none⟩) 1 1, .slice none 0 0] := by rw [hW]; exact Bk.two _ _ _ _
  have hO : WdY W 0 ⟨some ⟨g, 0, none⟩, 1, 1, ks, some ⟨w1.heap.size, 0, none⟩, 1, 1, [0], none, 0, 0, []⟩ :=
    ⟨hk.out.1.keep (F := []) (Kx.of_below (B := 0) hbW) (by simp) (by simp), ⟨.of_bk hkg rfl (fun j u hu => by simpa using hu), rfl, Nat.le_refl _, by show (1 : Nat) ≤ _; omega, fun x hx => by rw [List.mem_singleton.1 hx]; decide⟩, ⟨RdY.nil_ _, rfl, Nat.le_refl _, by show (0 : Nat) ≤ _; omega, (fun x hx => by cases hx)⟩⟩
  have hc : wcheckF (⟨some ⟨g, 0, none⟩, 1, 1, ks, some ⟨w1.heap.size, 0, none⟩, 1, 1, [0], none, 0, 0, []⟩ : Wd).p = 0 := by
    show wcheckF (⟨ks.map Kd.p, [0], []⟩ : Wv Kp2) = 0
    rw [hk.out.2]; exact k0_check
  have ht := three_ok hO.ok_ hO.ok_ hO.ok_ hc hc hc rfl rfl
  rw [merge_xx (vw_of hc).2 (newer_refl _), mergeC_xx] at ht
  have HT : Hid (Calls Try.prog 31 #[.agg #[.slice (some ⟨g, 0, none⟩) 1 1, .slice (some ⟨w1.heap.size, 0, none⟩) 1 1, .slice none 0 0], .agg #[.slice (some ⟨g, 0, none⟩) 1 1, .slice (some ⟨w1.heap.size, 0, none⟩) 1 1, .slice none 0 0], .agg #[.slice (some ⟨g, 0, none⟩) 1 1, .slice (some ⟨w1.heap.size, 0, none⟩) 1 1, .slice none 0 0]] W fun e w' => ∃ (kA : Option Addr) (kn kc : Nat) (gA : Option Addr) (gc : Nat) (iA : Option Addr) (im ic : Nat) (CA : Option Addr) (c : Nat), e = .returned (.tuple #[.agg #[.slice kA kn kc, .slice gA 1 gc, .slice iA im ic], .slice CA 0 c, .int .i64 0]) ∧ Below W.heap.size W w') := Lib.hid (ht.mono (by
    rintro e w' ⟨⟨kA, kn, kc, ks', gA, gn, gc, gs, iA, im, ic, its⟩, CA, n, c, rfl, hZ, hn, hb⟩
    obtain rfl : n = 0 := hn.out.1
    have h1 : gs = [0] := congrArg Wv.gens hZ.out.2
    have h2 : gn = gs.length := hZ.out.1.gs.len
    subst h1
    obtain rfl : gn = 1 := h2
    exact ⟨kA, kn, kc, gA, gc, iA, im, ic, CA, c, rfl, hb⟩))
  have hB : Below w.heap.size w W := hb1.trans (hbW.mono hb1.size)
  have HB := Lib.hid hB
  have c0 : W.cell? ⟨w1.heap.size + 1, 0, none⟩ = some (.slice (some ⟨g, 0, none⟩) 1 1) := hkb.cell 0
  have c1 : W.cell? ⟨w1.heap.size + 1, 1, none⟩ = some (.slice (some ⟨w1.heap.size, 0, none⟩) 1 1) := hkb.cell 1
  have c2 : W.cell? ⟨w1.heap.size + 1, 2, none⟩ = some (.slice none 0 0) := hkb.cell 2
  clear hk hb1 hbW hkg hkb hO hc ht hB HK
  go_upto_region 2 with fail
  rw [← hW]
  clear hW
  go_wp2_with fail
  (with_reducible refine HT.out.mono ?_)
  rintro e w3 ⟨kA, kn, kc, gA, gc, iA, im, ic, CA, c, rfl, hb3⟩
  clear HT c0 c1 c2
  have HB3 := Lib.hid (HB.out.trans (hb3.mono HB.out.size))
  clear hb3
  go_wp2_with fail
  go_ret
  exact ⟨rfl, HB3.out.alloc HB3.out.size _⟩
end Go.Proofs.Ytnidcmhfbkdioaa
