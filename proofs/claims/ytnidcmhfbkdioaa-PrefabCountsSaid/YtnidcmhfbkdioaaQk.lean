/-
  The contracts of Kinds at 0 and of the fact on templates. Conditions: none.
-/
import Derived.Test.YtnidcmhfbkdioaaPx
import Derived.Test.YtnidcmhfbkdioaaPy
namespace Go.Proofs.Ytnidcmhfbkdioaa
open Go.RowKit
set_option maxRecDepth 100000

theorem res_c1 {fn : Func} {p : Tmp} {ty : TypeId} (h : fn.results = #[.cell p ty]) (tmps : Array Value) (P : Program) (w : World) :
    (results fn tmps).run P w = ((asAddr (tmps.getD p undef)).run P w).andThen fun a w₁ => (loadVar ty a).run P w₁ := by
  simp only [results, h]
  simp [Sem.run_bind, Result.andThen]

set_option maxHeartbeats 800000 in
theorem mkField_any (nm : ByteArray) (b l : Int) (w : World) : Calls Try.prog 167 #[.string nm, .int .i64 b, .int .i64 l] w fun e w' => e = .returned (.agg #[.string nm, .int .i64 b, .int .i64 l]) ∧ Below w.heap.size w w' := by
  have hk := Bk.new w 66 #[.string ByteArray.empty, .int .i64 0, .int .i64 0]
  have q0 := hk.cell 0
  have q1 := hk.cell 1
  have q2 := hk.cell 2
  have g0 := hk.frozen 0
  have g1 := hk.frozen 1
  have g2 := hk.frozen 2
  simp only [List.getElem?_toArray, List.getElem?_cons_zero, List.getElem?_cons_succ] at q0 q1 q2
  clear hk
  go_enter Try.func167, Try.ntmps167
  go_wp2_with fail
  (try simp only [Exit.inBlock, Exit.then])
  refine bodyPost_ret (v := .agg #[.string nm, .int .i64 b, .int .i64 l]) ?_ rfl ⟨rfl, ?_⟩
  · rw [res_c1 rfl]
    go_simp
  · exact (Below.refl _ w).alloc (Nat.le_refl _) _

theorem and01 : (bits BinOp.and IntKind.i64 0 1 == 1) = false := by decide +kernel
theorem and02 : (bits BinOp.and IntKind.i64 0 2 == 2) = false := by decide +kernel
theorem and04 : (bits BinOp.and IntKind.i64 0 4 == 4) = false := by decide +kernel
def k0f : List Fd := [⟨⟨#[120]⟩, 8, (-100)⟩, ⟨⟨#[121]⟩, 8, (-100)⟩]
def k0n : ByteArray := ⟨#[115, 112, 111, 116]⟩

set_option maxHeartbeats 1600000 in
theorem kinds0_any (w : World) : Calls Try.prog 96 #[.int .i64 0] w fun e w' => ∃ g ks, e = .returned (.slice (some ⟨g, 0, none⟩) 1 1) ∧ Hid (KsY w' 0 (some ⟨g, 0, none⟩) 1 1 ks ∧ ks.map Kd.p = [(k0n, k0f)]) ∧ Below w.heap.size w w' := by
  have HF := Lib.hid mkField_any
  have t1 := and01
  have t2 := and02
  have t3 := and04
  go_enter Try.func96, Try.ntmps96
  go_wp2_with fail
  refine (HF.out ⟨#[120]⟩ 8 (-100) _).mono ?_
  rintro e w1 ⟨rfl, hb1⟩
  have HB1 := Lib.hid hb1
  clear hb1
  go_wp2_with fail
  refine (HF.out ⟨#[121]⟩ 8 (-100) _).mono ?_
  rintro e w2 ⟨rfl, hb2⟩
  have HB2 := Lib.hid (HB1.out.trans (hb2.mono HB1.out.size))
  clear hb2 HB1
  go_wp2_with fail
  go_ret
  have hk1 : Bk ((w2.alloc (.cells #[.string ⟨#[120]⟩, .int .i64 8, .int .i64 (-100), .string ⟨#[121]⟩, .int .i64 8, .int .i64 (-100)] 66)).alloc (.cells #[.string ⟨#[115, 112, 111, 116]⟩, .slice (some ⟨w2.heap.size, 0, none⟩) 2 2] 63)) w2.heap.size 66 (fdCs k0f).toArray := (Bk.new _ _ _).alloc _
  have hk2 : Bk ((w2.alloc (.cells #[.string ⟨#[120]⟩, .int .i64 8, .int .i64 (-100), .string ⟨#[121]⟩, .int .i64 8, .int .i64 (-100)] 66)).alloc (.cells #[.string ⟨#[115, 112, 111, 116]⟩, .slice (some ⟨w2.heap.size, 0, none⟩) 2 2] 63)) (w2.heap.size + 1) 63 (kdCs [⟨k0n, some ⟨w2.heap.size, 0, none⟩, 2, 2, k0f⟩]).toArray := Bk.two _ _ _ _
  refine ⟨w2.heap.size + 1, [⟨k0n, some ⟨w2.heap.size, 0, none⟩, 2, 2, k0f⟩], rfl, Lib.hid ⟨⟨.of_bk hk2 rfl (fun j u hu => by simpa using hu), rfl, Nat.le_refl _, by omega, fun k hk => ?_⟩, rfl⟩, ?_⟩
  · rw [List.mem_singleton.1 hk]
    exact ⟨.of_bk hk1 rfl (fun j u hu => by simpa using hu), rfl, Nat.le_refl _, by show (2 : Nat) ≤ _; omega⟩
  · exact (HB2.out.alloc HB2.out.size _).alloc (by have := HB2.out.size; simp; omega) _


theorem k0_ck : checkF [(k0n, k0f)] = 0 := by decide +kernel
theorem k0_comp : pcompF [(k0n, k0f)] none [(0, [1, 2])] = 0 := by decide +kernel
theorem k0_build : buildF [(k0n, k0f)] [([(0, [1, 2])], [])] 20 ((0 : Nat) : Int) [] = (0, [([], [(0, [1, 2])])]) := by decide +kernel
theorem one_of_map {α β : Type} {f : α → β} {l : List α} {b : β} (h : l.map f = [b]) : ∃ a, l = [a] ∧ f a = b := by
  cases l with
  | nil => simp at h
  | cons a r =>
    cases r with
    | nil => exact ⟨a, rfl, by simpa using h⟩
    | cons c r => simp at h

set_option maxHeartbeats 1600000 in
theorem builds_any (w : World) : Calls Try.prog 26 #[] w fun e w' => e = .returned (.bool true) ∧ Below w.heap.size w w' := by
  have HK := Lib.hid kinds0_any
  go_enter Try.func26, Try.ntmps26
  go_wp2_with fail
  refine (HK.out _).mono ?_
  rintro e w1 ⟨g, ks, rfl, hk, hb1⟩
  obtain ⟨W, hW⟩ : ∃ W, W = ((w1.alloc (.cells #[.int .i64 1, .int .i64 2] 3)).alloc (.cells #[.int .i64 0, .slice (some ⟨w1.heap.size, 0, none⟩) 2 2] 166)).alloc (.cells #[.slice (some ⟨w1.heap.size + 1, 0, none⟩) 1 1, .slice none 0 0] 43) := ⟨_, rfl⟩
  have hbW : Below w1.heap.size w1 W := by rw [hW]; exact (((Below.refl _ _).alloc (Nat.le_refl _) _).alloc (by simp) _).alloc (by simp; omega) _
  have hb3 : Bk W w1.heap.size 3 #[.int .i64 1, .int .i64 2] := by rw [hW]; exact ((Bk.new _ _ _).alloc _).alloc _
  have hb166 : Bk W (w1.heap.size + 1) 166 #[.int .i64 0, .slice (some ⟨w1.heap.size, 0, none⟩) 2 2] := by rw [hW]; exact (Bk.two _ _ _ _).alloc _
  have hb43 : Bk W (w1.heap.size + 2) 43 #[.slice (some ⟨w1.heap.size + 1, 0, none⟩) 1 1, .slice none 0 0] := by
    rw [hW]
    have h := Bk.new ((w1.alloc (.cells #[.int .i64 1, .int .i64 2] 3)).alloc (.cells #[.int .i64 0, .slice (some ⟨w1.heap.size, 0, none⟩) 2 2] 166)) 43 #[.slice (some ⟨w1.heap.size + 1, 0, none⟩) 1 1, .slice none 0 0]
    simpa using h
  have hcs : CsY W 0 (some ⟨w1.heap.size + 1, 0, none⟩) 1 1 [⟨0, some ⟨w1.heap.size, 0, none⟩, 2, 2, [1, 2]⟩] :=
    ⟨.of_bk hb166 rfl (fun j u hu => by simpa [cmCs, Cm.cs] using hu), rfl, Nat.le_refl _, by omega, fun x hx => by
      rw [List.mem_singleton.1 hx]
      exact ⟨.of_bk hb3 rfl (fun j u hu => by simpa using hu), rfl, Nat.le_refl _, by show (2 : Nat) ≤ _; omega, by show (Lit.int .i64 0).wf = true; decide⟩⟩
  have hts : PfsY W 0 (some ⟨w1.heap.size + 2, 0, none⟩) 1 1 [⟨some ⟨w1.heap.size + 1, 0, none⟩, 1, 1, [⟨0, some ⟨w1.heap.size, 0, none⟩, 2, 2, [1, 2]⟩], none, 0, 0, []⟩] :=
    ⟨.of_bk hb43 rfl (fun j u hu => by simpa [pfCs, Pf.cs] using hu), rfl, Nat.le_refl _, by omega, fun x hx => by
      rw [List.mem_singleton.1 hx]
      exact ⟨hcs, ⟨RdY.nil_ _, rfl, Nat.le_refl _, by show (0 : Nat) ≤ _; omega, (fun x hx => by cases hx)⟩⟩⟩
  have hkw : KsY W 0 (some ⟨g, 0, none⟩) 1 1 ks := hk.out.1.keep (F := []) (Kx.of_below (B := 0) hbW) (by simp) (by simp)
  have hkl : ks.length = 1 := by have := congrArg List.length hk.out.2; simpa using this
  have hv : TplV ks [⟨some ⟨w1.heap.size + 1, 0, none⟩, 1, 1, [⟨0, some ⟨w1.heap.size, 0, none⟩, 2, 2, [1, 2]⟩], none, 0, 0, []⟩] := by
    refine ⟨⟨fun n t hn => ?_, fun n t hn x hx => ?_⟩, by rw [hk.out.2]; exact k0_ck, Nat.le_of_ble_eq_true rfl, fun t ht => ?_, fun t ht => ?_, fun t ht x hx => ?_⟩
    · have e := List.mem_of_getElem? hn
      rw [List.mem_singleton.1 e]
      refine ⟨by show (1 : Nat) ≤ 1000; omega, fun cm hcm => ?_⟩
      rw [List.mem_singleton.1 hcm]
      exact ⟨⟨0, rfl, by omega⟩, by show (2 : Nat) ≤ _; omega⟩
    · have e := List.mem_of_getElem? hn
      rw [List.mem_singleton.1 e] at hx
      cases hx
    · rw [List.mem_singleton.1 ht, hk.out.2]; exact k0_comp
    · rw [List.mem_singleton.1 ht]; exact Nat.zero_le _
    · rw [List.mem_singleton.1 ht] at hx; cases hx
  have hbl := pfbuild_any hkw.ok_ hts.ok_ hv (nn := 0) (oA := none) (on := 0) (oc := 0) (ovs := []) (by omega) ⟨Rd.nil_ _, rfl, Nat.le_refl _, by omega, (fun x hx => by cases hx), Nat.le_refl _⟩
  have hbe : buildF (ks.map Kd.p) ((([⟨some ⟨w1.heap.size + 1, 0, none⟩, 1, 1, [⟨0, some ⟨w1.heap.size, 0, none⟩, 2, 2, [1, 2]⟩], none, 0, 0, []⟩] : List Pf)).map Pf.p) 20 ((0 : Nat) : Int) (([] : List Ov).map Ov.p) = (0, [([], [(0, [1, 2])])]) := by
    rw [hk.out.2]; exact k0_build
  rw [hbe] at hbl
  have HBL : Hid (Calls Try.prog 25 #[.slice (some ⟨g, 0, none⟩) 1 1, .slice (some ⟨w1.heap.size + 2, 0, none⟩) 1 1, .int .i64 0, .slice none 0 0] W fun e w' => ∃ (b o c : Nat) (A : Option Addr) (c2 : Nat), e = .returned (.tuple #[.slice (some ⟨b, o, none⟩) 1 c, .int .i64 0]) ∧ w'.cell? ⟨b, o + 1, none⟩ = some (.slice A 1 c2) ∧ Below W.heap.size W w') := Lib.hid (hbl.mono fun e w' h => by
    obtain ⟨h1, h2⟩ := h
    rcases h2 with ⟨h3, _⟩ | ⟨_, A, m, c, l, rfl, h4⟩
    · exact absurd rfl h3
    · obtain ⟨x, rfl, hx⟩ := one_of_map h4.out.2
      obtain rfl : m = 1 := h4.out.1.len
      have hx2 : x.cms.map Cm.p = [(0, [1, 2])] := congrArg Prod.snd hx
      obtain ⟨cm, hcm, _⟩ := one_of_map hx2
      have hcn : x.cn = 1 := by have := (h4.out.1.ys.ok x (List.mem_singleton.2 rfl)).cs.len; rw [hcm] at this; exact this
      obtain ⟨b, o, rfl, _, _, q1⟩ := Rd.btS h4.out.1.own (k := 0) (f := x) (by omega) rfl
      rw [Nat.zero_mul, Nat.add_zero, hcn] at q1
      exact ⟨b, o, c, x.cA, x.cc, rfl, q1, h1⟩)
  have HB : Hid (Below w.heap.size w W) := Lib.hid (hb1.trans (hbW.mono hb1.size))
  clear hk hb1 hbW hb3 hb166 hb43 hcs hts hkw hkl hv hbl hbe HK
  go_wp2_with fail
  rw [← hW]
  clear hW
  (with_reducible refine HBL.out.mono ?_)
  rintro e w3 ⟨b, o, c, A, c2, rfl, q1, hb3⟩
  have HB3 := Lib.hid (HB.out.trans (hb3.mono HB.out.size))
  clear hb3 HBL HB
  go_wp2_with fail
  go_ret
  exact ⟨rfl, HB3.out⟩
end Go.Proofs.Ytnidcmhfbkdioaa
