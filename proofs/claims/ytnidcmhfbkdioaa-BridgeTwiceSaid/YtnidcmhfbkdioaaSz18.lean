/-
  Lemmas for the walk, merged (Bw By Bz Ca Cb). No condition but those in each statement.
-/
import Derived.Deep.CutBlock
import Derived.Test.YtnidcmhfbkdioaaSz17
import Derived.Test.YtnidcmhfbkdioaaSz13
import Derived.Test.YtnidcmhfbkdioaaSz16
namespace Go.Proofs.Ytnidcmhfbkdioaa
/-! ### Bw -/
open Go.RowKit
set_option maxRecDepth 100000
theorem kindsN_check (n : Nat) (hn : n < 8) : checkF (kindsN n) = 0 := by
  rcases (by omega : n = 0 ∨ n = 1 ∨ n = 2 ∨ n = 3 ∨ n = 4 ∨ n = 5 ∨ n = 6 ∨ n = 7) with rfl | rfl | rfl | rfl | rfl | rfl | rfl | rfl <;> decide +kernel
theorem kindsN_map (n : Nat) (hn : n < 8) : (mapF (kindsN n)).2 = 0 := by
  rcases (by omega : n = 0 ∨ n = 1 ∨ n = 2 ∨ n = 3 ∨ n = 4 ∨ n = 5 ∨ n = 6 ∨ n = 7) with rfl | rfl | rfl | rfl | rfl | rfl | rfl | rfl <;> decide +kernel
theorem kindsN_len (n : Nat) (hn : n < 8) : 1 ≤ (kindsN n).length ∧ (kindsN n).length ≤ 6 := by
  rcases (by omega : n = 0 ∨ n = 1 ∨ n = 2 ∨ n = 3 ∨ n = 4 ∨ n = 5 ∨ n = 6 ∨ n = 7) with rfl | rfl | rfl | rfl | rfl | rfl | rfl | rfl <;> decide +kernel
/-- Each kind's fields are few and good; 'place' has at least two, whose ranges hold what is drawn anew. -/
theorem kindsN_one (n : Nat) (hn : n < 8) : ∀ k ∈ kindsN n, oneF k.1 k.2 = 0 := by
  rcases (by omega : n = 0 ∨ n = 1 ∨ n = 2 ∨ n = 3 ∨ n = 4 ∨ n = 5 ∨ n = 6 ∨ n = 7) with rfl | rfl | rfl | rfl | rfl | rfl | rfl | rfl <;> decide +kernel
theorem kindsN_place (n : Nat) (hn : n < 8) : ∀ k ∈ kindsN n, k.1 = kn_p → k.2 = kf_p := by
  rcases (by omega : n = 0 ∨ n = 1 ∨ n = 2 ∨ n = 3 ∨ n = 4 ∨ n = 5 ∨ n = 6 ∨ n = 7) with rfl | rfl | rfl | rfl | rfl | rfl | rfl | rfl <;> simp [kindsN, kn_s, kn_i, kn_m, kn_p, kn_o, kn_h]
theorem scripts_any (w : World) : Calls Try.prog 133 #[] w fun e w' => ∃ (g : Nat) (l : List ByteArray), e = .returned (.slice (some ⟨g, 0, none⟩) 4 4) ∧ l.length = 4 ∧ Bk w' g 9 (l.map Value.string).toArray ∧ w.heap.size ≤ g ∧ Below w.heap.size w w' := by
  go_enter Try.func133, Try.ntmps133
  go_wp2_with fail
  go_ret
  refine ⟨_, [_, _, _, _], rfl, rfl, Bk.new w 9 _, Nat.le_refl _, (Below.refl _ w).alloc (Nat.le_refl _) _⟩
/-! ### By -/
/-- Values that were drawn for fields. -/
def InR (fds : List Fd) (vs : List Int) : Prop := vs.length = fds.length ∧ ∀ t f, fds[t]? = some f → f.low ≤ vs.getD t 0 ∧ vs.getD t 0 < f.low + 2 ^ f.bits.toNat
theorem InR.hold {nm : ByteArray} {fds : List Fd} {vs : List Int} (h : InR fds vs) (h1 : oneF nm fds = 0) : holdK (nm, fds) vs = true := hold_of h1 h.1 h.2
theorem InR.place {vs : List Int} (h : InR kf_p vs) {a b : Int} (ha : 0 ≤ a ∧ a < 9) (hb : 0 ≤ b ∧ b < 9) : InR kf_p ((vs.set 0 ((a - 4) * 65536)).set 1 ((b - 4) * 65536)) := by
  obtain ⟨hl, hr⟩ := h
  have hl3 : vs.length = 3 := hl
  match vs, hl3 with
  | [x, y, z], _ =>
    refine ⟨rfl, fun t f hf => ?_⟩
    match t with
    | 0 =>
      have e : f = ⟨⟨#[120]⟩, 26, (-33554432)⟩ := by simpa [kf_p] using hf.symm
      subst e
      show (-33554432 : Int) ≤ (a - 4) * 65536 ∧ (a - 4) * 65536 < -33554432 + 2 ^ (26 : Int).toNat
      have e2 : (2 : Int) ^ (26 : Int).toNat = 67108864 := by decide
      rw [e2]
      omega
    | 1 =>
      have e : f = ⟨⟨#[121]⟩, 26, (-33554432)⟩ := by simpa [kf_p] using hf.symm
      subst e
      show (-33554432 : Int) ≤ (b - 4) * 65536 ∧ (b - 4) * 65536 < -33554432 + 2 ^ (26 : Int).toNat
      have e2 : (2 : Int) ^ (26 : Int).toNat = 67108864 := by decide
      rw [e2]
      omega
    | 2 => exact hr 2 f hf
    | (n + 3) => simp [kf_p] at hf
/-! ### Bz -/
noncomputable def vdLoop : Code := (Try.f54.body.bind (blkN 4)).getD .skip
set_option maxHeartbeats 8000000 in
theorem vdLoop_any {x0 x1 x2 x3 x4 x6 x7 x8 x9 x10 x12 x13 x14 x15 x16 x17 x18 x19 x20 x21 x22 x23 x24 x25 x26 x27 x28 x29 x30 x31 x32 x33 x34 x35 x36 x37 x38 x39 x40 x41 x42 x43 x44 x45 x46 x47 x48 x49 x50 x51 x52 x53 x54 x55 x56 x60 x61 x62 x63 x64 x65 x66 x67 x68 x69 x70 x71 x72 x73 x74 x75 x76 x77 x78 x79 x80 x81 x82 x83 x84 x85 x86 x87 x88 x89 x90 x91 x92 x93 x94 x95 x96 x97 x98 x99 x100 x101 x102 x103 x104 x105 x106 x107 x108 : Value} {Q : Exit → Act → World → Prop} {wI w0 : World} {B base s cA fn fc i : Nat} {fA : Option Addr} {fds : List Fd}
    (hst : StrSt w0 B s) (hB : B ≤ s) (hrd : RdY w0 B 66 3 fA fn (fdCs fds)) (hfl : fn = fds.length) (hfn : fn ≤ fc) (hfc : fc ≤ 9223372036854775807) (hfok : ∀ f ∈ fds, fieldF f = 0) (h8 : fn ≤ 8)
    (hc : Bk w0 cA 166 #[.int .i64 (i : Int), .slice none 0 0]) (hBb : B ≤ base) (hbase : base ≤ w0.heap.size) (hcA : base ≤ cA) (hQ : Fq [s] wI w0) (hI : wI.heap.size ≤ base)
    (hN : ∀ (y13 y60 y61 y62 y63 y64 y65 y66 y67 y68 y69 y70 y71 y72 y73 y74 y75 y76 : Value) (vs : List Int) (VA : Option Addr) (vc : Nat) (w' : World), Hid (InR fds vs ∧ StrSt w' B s ∧ Bk w' cA 166 #[.int .i64 (i : Int), .slice VA fn vc] ∧ w'.ownsRow base 3 1 (.slice VA fn vc) fn (vs.map (Value.int .i64)) ∧ Fq [s] wI w' ∧ Kx B [189, 3, 166] w0 w') → Q .normal ⟨#[x0, x1, x2, x3, x4, .pointer (some ⟨s, 0, none⟩), x6, x7, x8, x9, x10, .pointer (some ⟨cA, 0, none⟩), x12, y13, x14, x15, x16, x17, x18, x19, x20, x21, x22, x23, x24, x25, x26, x27, x28, x29, x30, x31, x32, x33, x34, x35, x36, x37, x38, x39, x40, x41, x42, x43, x44, x45, x46, x47, x48, x49, x50, x51, x52, x53, x54, x55, x56, .slice fA fn fc, .int .i64 (fn : Int), .int .i64 (fn : Int), y60, y61, y62, y63, y64, y65, y66, y67, y68, y69, y70, y71, y72, y73, y74, y75, y76, x77, x78, x79, x80, x81, x82, x83, x84, x85, x86, x87, x88, x89, x90, x91, x92, x93, x94, x95, x96, x97, x98, x99, x100, x101, x102, x103, x104, x105, x106, x107, x108], []⟩ w') :
    Code.wp Try.prog vdLoop Q ⟨#[x0, x1, x2, x3, x4, .pointer (some ⟨s, 0, none⟩), x6, x7, x8, x9, x10, .pointer (some ⟨cA, 0, none⟩), x12, x13, x14, x15, x16, x17, x18, x19, x20, x21, x22, x23, x24, x25, x26, x27, x28, x29, x30, x31, x32, x33, x34, x35, x36, x37, x38, x39, x40, x41, x42, x43, x44, x45, x46, x47, x48, x49, x50, x51, x52, x53, x54, x55, x56, .slice fA fn fc, .int .i64 (fn : Int), .int .i64 0, x60, x61, x62, x63, x64, x65, x66, x67, x68, x69, x70, x71, x72, x73, x74, x75, x76, x77, x78, x79, x80, x81, x82, x83, x84, x85, x86, x87, x88, x89, x90, x91, x92, x93, x94, x95, x96, x97, x98, x99, x100, x101, x102, x103, x104, x105, x106, x107, x108], []⟩ w0 := by
  conv => arg 2; whnf
  have HRD := Lib.hid hrd
  have HST := Lib.hid hst
  have HC := Lib.hid hc
  have HOK := Lib.hid hfok
  have HFL := Lib.hid hfl
  clear hrd hst hc hfok hfl
  go_wp2_with fail
  go_loopw [59] (fun jv wx => ∃ (j vc : Nat) (VA : Option Addr) (vs : List Int), j ≤ fn ∧ jv = .int .i64 j ∧ Hid (StrSt wx B s ∧ Bk wx cA 166 #[.int .i64 (i : Int), .slice VA j vc] ∧ wx.ownsRow base 3 1 (.slice VA j vc) j (vs.map (Value.int .i64)) ∧ vs.length = j ∧ (∀ t f, t < j → fds[t]? = some f → f.low ≤ vs.getD t 0 ∧ vs.getD t 0 < f.low + 2 ^ f.bits.toNat) ∧ Fq [s] wI wx ∧ Kx B [189, 3, 166] w0 wx)) (fun jv _ => fn - (intOf jv).toNat)
  case atStart => exact ⟨0, 0, none, [], Nat.zero_le _, rfl, Lib.hid ⟨HST.out, HC.out, World.ownsRow_nil _ _ _ _, rfl, (fun t f ht => by omega), hQ, Kx.refl⟩⟩
  case round =>
    obtain ⟨j, vc, VA, vs, hj, rfl, HV⟩ := hrel
    by_cases hjl : j < fn
    · obtain ⟨f, hf⟩ : ∃ f, fds[j]? = some f := ⟨_, List.getElem?_eq_getElem (by have := HFL.out; omega)⟩
      have HF := Lib.hid hf
      have hjz : (j : Int) < fn := by omega
      have HRr := Lib.hid ((HRD.out.keep HV.out.2.2.2.2.2.2 (by decide)).rd)
      have HFK := Lib.hid (field_ok (HOK.out f (List.mem_of_getElem? hf)))
      have HSZ : Hid (base ≤ wr.heap.size) := Lib.hid (Nat.le_trans hbase HV.out.2.2.2.2.2.2.size)
      clear hf
      go_upto_if 60 with fail
      first
        | (go_step; refine vdOne_any HV.out.1 hB HRr.out hfn hfc HF.out hjl HFK.out (by omega) HV.out.2.1 HV.out.2.2.1 hBb HSZ.out hcA HV.out.2.2.2.2.2.1 hI ?_)
        | (go_step; go_step; refine vdOne_any HV.out.1 hB HRr.out hfn hfc HF.out hjl HFK.out (by omega) HV.out.2.1 HV.out.2.2.1 hBb HSZ.out hcA HV.out.2.2.2.2.2.1 hI ?_)
        | (go_step; go_step; go_step; refine vdOne_any HV.out.1 hB HRr.out hfn hfc HF.out hjl HFK.out (by omega) HV.out.2.1 HV.out.2.2.1 hBb HSZ.out hcA HV.out.2.2.2.2.2.1 hI ?_)
        | (go_step; go_step; go_step; go_step; refine vdOne_any HV.out.1 hB HRr.out hfn hfc HF.out hjl HFK.out (by omega) HV.out.2.1 HV.out.2.2.1 hBb HSZ.out hcA HV.out.2.2.2.2.2.1 hI ?_)
        | (go_step; go_step; go_step; go_step; go_step; refine vdOne_any HV.out.1 hB HRr.out hfn hfc HF.out hjl HFK.out (by omega) HV.out.2.1 HV.out.2.2.1 hBb HSZ.out hcA HV.out.2.2.2.2.2.1 hI ?_)
      intros
      rename_i v g7 c7 w7 H7
      have HVN : Hid (StrSt w7 B s ∧ Bk w7 cA 166 #[.int .i64 (i : Int), .slice (some ⟨g7, 0, none⟩) (j + 1) c7] ∧ w7.ownsRow base 3 1 (.slice (some ⟨g7, 0, none⟩) (j + 1) c7) (j + 1) ((vs ++ [f.low + v]).map (Value.int .i64)) ∧ (vs ++ [f.low + v]).length = j + 1 ∧ (∀ t g, t < j + 1 → fds[t]? = some g → g.low ≤ (vs ++ [f.low + v]).getD t 0 ∧ (vs ++ [f.low + v]).getD t 0 < g.low + 2 ^ g.bits.toNat) ∧ Fq [s] wI w7 ∧ Kx B [189, 3, 166] w0 w7) := Lib.hid
        ⟨H7.out.2.2.1, H7.out.2.2.2.1, H7.out.2.2.2.2.1, by rw [List.length_append, HV.out.2.2.2.1]; rfl, mk_range (bt := f.bits.toNat) HV.out.2.2.2.1 HV.out.2.2.2.2.1 HF.out (by have := HFK.out; omega) rfl rfl H7.out.1 H7.out.2.1, H7.out.2.2.2.2.2.1, HV.out.2.2.2.2.2.2.trans H7.out.2.2.2.2.2.2⟩
      clear HV H7 HRr HFK HF HSZ
      go_wp2_with fail
      go_roundw
      case rel => exact ⟨j + 1, c7, some ⟨g7, 0, none⟩, vs ++ [f.low + v], by omega, by go_num, HVN⟩
      case measure => simp [intOf]; omega
    · obtain rfl : fn = j := by omega
      have HR : Hid (InR fds vs ∧ StrSt wr B s ∧ Bk wr cA 166 #[.int .i64 (i : Int), .slice VA fn vc] ∧ wr.ownsRow base 3 1 (.slice VA fn vc) fn (vs.map (Value.int .i64)) ∧ Fq [s] wI wr ∧ Kx B [189, 3, 166] w0 wr) := Lib.hid ⟨⟨by rw [HV.out.2.2.2.1]; exact HFL.out, fun t f hf => HV.out.2.2.2.2.1 t f (by have h1 := (List.getElem?_eq_some_iff.1 hf).1; have h2 := HFL.out; omega) hf⟩, HV.out.1, HV.out.2.1, HV.out.2.2.1, HV.out.2.2.2.2.2⟩
      clear HV
      go_wp2_with fail
      (try simp only [Exit.inBlock, Exit.then])
      first
        | exact HR
        | exact hN _ _ _ _ _ _ _ _ _ _ _ _ _ _ _ _ _ _ vs VA vc _ HR
/-! ### Ca -/
noncomputable def vdR20 : Code := (Try.f54.body.bind (rgnN 20)).getD .skip
theorem own_setB {w : World} {base n c g j : Nat} {e : TypeId} {xs : List Value} (h : w.ownsRow base e 1 (.slice (some ⟨g, 0, none⟩) n c) n xs) (hj : j < n) (u : Value) : (w.setCell ⟨g, j, none⟩ u).ownsRow base e 1 (.slice (some ⟨g, 0, none⟩) n c) n (xs.set j u) := by
  refine ⟨by rw [List.length_set]; exact h.1, ?_⟩
  rcases h.2 with ⟨hv, hn⟩ | ⟨g', cap, cur, hv, h3, h4, h5, h6, h7, h8⟩
  · omega
  · injection hv with h1 h2 h3'
    injection h1 with h1
    injection h1 with h1
    subst h1 h3'
    refine .inr ⟨g, c, cur.setIfInBounds j u, rfl, h3, Bk.set_ (show Bk w g e cur from h4) j u, h5, h6, by rw [Array.size_setIfInBounds]; exact h7, ?_⟩
    rw [Array.toList_setIfInBounds, ← h8, List.take_set]
theorem own_cellB {w : World} {base n c g j : Nat} {e : TypeId} {xs : List Value} (h : w.ownsRow base e 1 (.slice (some ⟨g, 0, none⟩) n c) n xs) (hj : j < n) : (∃ u, w.cell? ⟨g, j, none⟩ = some u) ∧ w.frozen? ⟨g, j, none⟩ = false := by
  rcases h.2 with ⟨hv, hn⟩ | ⟨g', cap, cur, hv, h3, h4, h5, h6, h7, h8⟩
  · omega
  · injection hv with h1 h2 h3'
    injection h1 with h1
    injection h1 with h1
    subst h1 h3'
    have hb : Bk w g e cur := h4
    exact ⟨⟨_, (hb.cell j).trans (Array.getElem?_eq_getElem (by omega))⟩, hb.frozen j⟩
set_option maxHeartbeats 8000000 in
theorem vdPlace_any {x0 x1 x2 x3 x4 x6 x7 x8 x9 x10 x12 x13 x14 x15 x16 x17 x18 x19 x20 x21 x22 x23 x24 x25 x26 x27 x28 x29 x30 x31 x32 x33 x34 x35 x36 x37 x38 x39 x40 x41 x42 x43 x44 x45 x46 x47 x48 x49 x50 x51 x52 x53 x54 x55 x56 x57 x58 x59 x60 x61 x62 x63 x64 x65 x66 x67 x68 x69 x70 x71 x72 x73 x74 x75 x76 x77 x78 x79 x80 x81 x82 x83 x84 x85 x86 x87 x88 x89 x90 x91 x92 x93 x94 x95 x96 x97 x98 x99 x100 x101 x102 x103 x104 x105 x106 x107 x108 : Value} {Q : Exit → Act → World → Prop} {wI w0 : World} {B base s cA i vc : Nat} {VA : Option Addr} {vs : List Int}
    (hst : StrSt w0 B s) (hB : B ≤ s) (hc : Bk w0 cA 166 #[.int .i64 (i : Int), .slice VA 3 vc]) (ho : w0.ownsRow base 3 1 (.slice VA 3 vc) 3 (vs.map (Value.int .i64))) (hv : InR kf_p vs) (hBb : B ≤ base) (hQ : Fq [s] wI w0) (hI : wI.heap.size ≤ base)
    (hN : ∀ (y80 y81 y82 y83 y84 y85 y86 y87 y88 y89 y90 y91 y92 y93 : Value) (vs2 : List Int) (w' : World), Hid (InR kf_p vs2 ∧ StrSt w' B s ∧ Bk w' cA 166 #[.int .i64 (i : Int), .slice VA 3 vc] ∧ w'.ownsRow base 3 1 (.slice VA 3 vc) 3 (vs2.map (Value.int .i64)) ∧ Fq [s] wI w' ∧ Kx B [189, 3] w0 w') → Q .normal ⟨#[x0, x1, x2, x3, x4, .pointer (some ⟨s, 0, none⟩), x6, x7, x8, x9, x10, .pointer (some ⟨cA, 0, none⟩), x12, x13, x14, x15, x16, x17, x18, x19, x20, x21, x22, x23, x24, x25, x26, x27, x28, x29, x30, x31, x32, x33, x34, x35, x36, x37, x38, x39, x40, x41, x42, x43, x44, x45, x46, x47, x48, x49, x50, x51, x52, x53, x54, x55, x56, x57, x58, x59, x60, x61, x62, x63, x64, x65, x66, x67, x68, x69, x70, x71, x72, x73, x74, x75, x76, x77, x78, x79, y80, y81, y82, y83, y84, y85, y86, y87, y88, y89, y90, y91, y92, y93, x94, x95, x96, x97, x98, x99, x100, x101, x102, x103, x104, x105, x106, x107, x108], []⟩ w') :
    Code.wp Try.prog vdR20 Q ⟨#[x0, x1, x2, x3, x4, .pointer (some ⟨s, 0, none⟩), x6, x7, x8, x9, x10, .pointer (some ⟨cA, 0, none⟩), x12, x13, x14, x15, x16, x17, x18, x19, x20, x21, x22, x23, x24, x25, x26, x27, x28, x29, x30, x31, x32, x33, x34, x35, x36, x37, x38, x39, x40, x41, x42, x43, x44, x45, x46, x47, x48, x49, x50, x51, x52, x53, x54, x55, x56, x57, x58, x59, x60, x61, x62, x63, x64, x65, x66, x67, x68, x69, x70, x71, x72, x73, x74, x75, x76, x77, x78, x79, x80, x81, x82, x83, x84, x85, x86, x87, x88, x89, x90, x91, x92, x93, x94, x95, x96, x97, x98, x99, x100, x101, x102, x103, x104, x105, x106, x107, x108], []⟩ w0 := by
  conv => arg 2; whnf
  obtain ⟨g, rfl⟩ : ∃ g, VA = some ⟨g, 0, none⟩ := by
    obtain ⟨g, cap, hvv, _, _⟩ := ho.form (by omega)
    injection hvv with h1
    exact ⟨g, h1⟩
  have HNX := Lib.hid next_any
  have hbs : B ≤ w0.heap.size := hst.lo hB
  obtain ⟨scs, hsk⟩ := hst.bk
  have hgc : g ≠ cA := fun e => own_ne ho hc (by decide) (by rw [← e]; rfl)
  have hgs : g ≠ s := fun e => own_ne ho hsk (by decide) (by rw [← e]; rfl)
  have hcs : cA ≠ s := hc.ne_ hsk (by decide)
  have hgI : wI.heap.size ≤ g := Nat.le_trans hI (ho.lt g rfl).1
  have hgB : B ≤ g := Nat.le_trans hBb (ho.lt g rfl).1
  obtain ⟨u0, hu0⟩ : ∃ z, z = w0.drew := ⟨_, rfl⟩
  have HC0 : Hid (Bk u0 cA 166 #[.int .i64 (i : Int), .slice (some ⟨g, 0, none⟩) 3 vc]) := Lib.hid (by rw [hu0]; exact hc.drew)
  have HO0 : Hid (u0.ownsRow base 3 1 (.slice (some ⟨g, 0, none⟩) 3 vc) 3 (vs.map (Value.int .i64))) := Lib.hid (by rw [hu0]; exact (Kx.refl (B := 0) (F := [])).drew.own ho (by simp))
  have HS0 : Hid (StrSt u0 B s) := Lib.hid (by rw [hu0]; exact hst.below (Below.refl _ _).drew hbs)
  have HK0 : Hid (Kx B [189, 3] w0 u0) := Lib.hid (by rw [hu0]; exact Kx.refl.drew)
  have HQ0 : Hid (Fq [s] wI u0) := Lib.hid (by rw [hu0]; exact hQ.drew)
  have HV := Lib.hid hv
  clear hst hc ho hsk hv
  refine wp_region_noPanic ?_
  refine wp_region_H (S := fun wz => wz.cell? ⟨cA, 1, none⟩ = some (.slice (some ⟨g, 0, none⟩) 3 vc)) (by kernel_rfl) ?_
  rw [← hu0]
  clear hu0
  refine wpAnyH_val (i := 0) (v := .pointer (some ⟨cA, 1, none⟩)) (d := some 80) rfl rfl (by kernel_rfl) (by kernel_rfl) (by kernel_rfl) (fun _ _ _ h => h) (Or.inl ⟨by rfl, fun w hS => by (go_simp)⟩) (HC0.out.cell 1) ?_
  (try simp only [Act.put, List.setIfInBounds_toArray, List.set_cons_zero, List.set_cons_succ])
  refine wpAnyH_val (i := 1) (v := .slice (some ⟨g, 0, none⟩) 3 vc) (d := some 81) rfl rfl (by kernel_rfl) (by kernel_rfl) (by kernel_rfl) (fun _ _ _ h => h) (Or.inl ⟨by rfl, fun w hS => by (go_simp)⟩) (HC0.out.cell 1) ?_
  (try simp only [Act.put, List.setIfInBounds_toArray, List.set_cons_zero, List.set_cons_succ])
  refine wpAnyH_val (i := 2) (v := .pointer (some ⟨cA, 1, none⟩)) (d := some 82) rfl rfl (by kernel_rfl) (by kernel_rfl) (by kernel_rfl) (fun _ _ _ h => h) (Or.inl ⟨by rfl, fun w hS => by (go_simp)⟩) (HC0.out.cell 1) ?_
  (try simp only [Act.put, List.setIfInBounds_toArray, List.set_cons_zero, List.set_cons_succ])
  refine wpAnyH_val (i := 3) (v := .slice (some ⟨g, 0, none⟩) 3 vc) (d := some 83) rfl rfl (by kernel_rfl) (by kernel_rfl) (by kernel_rfl) (fun _ _ _ h => h) (Or.inl ⟨by rfl, fun w hS => by (go_simp)⟩) (HC0.out.cell 1) ?_
  (try simp only [Act.put, List.setIfInBounds_toArray, List.set_cons_zero, List.set_cons_succ])
  refine wpAnyH_val (i := 4) (v := .pointer (some ⟨s, 0, none⟩)) (d := some 84) rfl rfl (by kernel_rfl) (by kernel_rfl) (by kernel_rfl) (fun _ _ _ h => h) (Or.inl ⟨by rfl, fun w hS => by (go_simp)⟩) (HC0.out.cell 1) ?_
  (try simp only [Act.put, List.setIfInBounds_toArray, List.set_cons_zero, List.set_cons_succ])
  refine wpAnyH_val (i := 8) (v := .pointer (some ⟨s, 0, none⟩)) (d := some 88) rfl rfl (by kernel_rfl) (by kernel_rfl) (by kernel_rfl) (fun _ _ _ h => h) (Or.inl ⟨by rfl, fun w hS => by (go_simp)⟩) (HC0.out.cell 1) ?_
  (try simp only [Act.put, List.setIfInBounds_toArray, List.set_cons_zero, List.set_cons_succ])
  refine wpAnyH_oneW (i := 5) rfl (by kernel_rfl) (by rfl) ?_
  go_simp
  go_at_call 98
  (with_reducible refine (HNX.out s B 9 _ HS0.out hB (by omega) (by omega)).mono ?_)
  rintro e u1 ⟨a, rfl, a0, a1, hst6, hg6⟩
  have HC1 : Hid (Bk u1 cA 166 #[.int .i64 (i : Int), .slice (some ⟨g, 0, none⟩) 3 vc]) := Lib.hid (HC0.out.grown hg6 (fun e => by injection e with e; omega))
  have HO1 : Hid (u1.ownsRow base 3 1 (.slice (some ⟨g, 0, none⟩) 3 vc) 3 (vs.map (Value.int .i64))) := Lib.hid (own_keepB HO0.out fun b hb => hg6.block b (HO0.out.lt b hb).2 (fun e => by injection e with e; have hb : g = b := (by simpa [Value.ownBlock] using hb); omega))
  have HK1 : Hid (Kx B [189, 3] w0 u1) := Lib.hid (HK0.out.trans ((Kx.grownS (HS0.out.bk.choose_spec) hg6 hB).mono (Nat.le_refl _) (by simp)))
  have HS1 := Lib.hid hst6
  have hwaa : IntKind.i64.wrap (a - 4) = a - 4 := wrap_small2 (by omega) (by omega)
  have hwba : IntKind.i64.wrap ((a - 4) * 65536) = (a - 4) * 65536 := wrap_small2 (by omega) (by omega)
  have HQ1 : Hid (Fq [s] wI u1) := Lib.hid (HQ0.out.grown hg6 (fun g hg => .inl (by injection hg with hg; simp [hg])))
  clear hst6 hg6
  refine And.intro (HC1.out.cell 1) ?_
  (try simp only [Act.put, List.setIfInBounds_toArray, List.set_cons_zero, List.set_cons_succ])
  refine wpAnyH_val (i := 6) (v := .int .i64 (a - 4)) (d := some 86) rfl rfl (by kernel_rfl) (by kernel_rfl) (by kernel_rfl) (fun _ _ _ h => h) (Or.inl ⟨by rfl, fun w hS => by (go_simp)⟩) (HC1.out.cell 1) ?_
  (try simp only [Act.put, List.setIfInBounds_toArray, List.set_cons_zero, List.set_cons_succ])
  refine wpAnyH_val (i := 7) (v := .int .i64 ((a - 4) * 65536)) (d := some 87) rfl rfl (by kernel_rfl) (by kernel_rfl) (by kernel_rfl) (fun _ _ _ h => h) (Or.inl ⟨by rfl, fun w hS => by (go_simp)⟩) (HC1.out.cell 1) ?_
  (try simp only [Act.put, List.setIfInBounds_toArray, List.set_cons_zero, List.set_cons_succ])
  refine wpAnyH_oneW (i := 9) rfl (by kernel_rfl) (by rfl) ?_
  go_simp
  go_at_call 98
  (with_reducible refine (HNX.out s B 9 _ HS1.out hB (by omega) (by omega)).mono ?_)
  rintro e u2 ⟨b, rfl, b0, b1, hst6, hg6⟩
  have HC2 : Hid (Bk u2 cA 166 #[.int .i64 (i : Int), .slice (some ⟨g, 0, none⟩) 3 vc]) := Lib.hid (HC1.out.grown hg6 (fun e => by injection e with e; omega))
  have HO2 : Hid (u2.ownsRow base 3 1 (.slice (some ⟨g, 0, none⟩) 3 vc) 3 (vs.map (Value.int .i64))) := Lib.hid (own_keepB HO1.out fun b hb => hg6.block b (HO1.out.lt b hb).2 (fun e => by injection e with e; have hb : g = b := (by simpa [Value.ownBlock] using hb); omega))
  have HK2 : Hid (Kx B [189, 3] w0 u2) := Lib.hid (HK1.out.trans ((Kx.grownS (HS1.out.bk.choose_spec) hg6 hB).mono (Nat.le_refl _) (by simp)))
  have HS2 := Lib.hid hst6
  have hwab : IntKind.i64.wrap (b - 4) = b - 4 := wrap_small2 (by omega) (by omega)
  have hwbb : IntKind.i64.wrap ((b - 4) * 65536) = (b - 4) * 65536 := wrap_small2 (by omega) (by omega)
  have HQ2 : Hid (Fq [s] wI u2) := Lib.hid (HQ1.out.grown hg6 (fun g hg => .inl (by injection hg with hg; simp [hg])))
  clear hst6 hg6
  refine And.intro (HC2.out.cell 1) ?_
  (try simp only [Act.put, List.setIfInBounds_toArray, List.set_cons_zero, List.set_cons_succ])
  refine wpAnyH_val (i := 10) (v := .int .i64 (b - 4)) (d := some 90) rfl rfl (by kernel_rfl) (by kernel_rfl) (by kernel_rfl) (fun _ _ _ h => h) (Or.inl ⟨by rfl, fun w hS => by (go_simp)⟩) (HC2.out.cell 1) ?_
  (try simp only [Act.put, List.setIfInBounds_toArray, List.set_cons_zero, List.set_cons_succ])
  refine wpAnyH_val (i := 11) (v := .int .i64 ((b - 4) * 65536)) (d := some 91) rfl rfl (by kernel_rfl) (by kernel_rfl) (by kernel_rfl) (fun _ _ _ h => h) (Or.inl ⟨by rfl, fun w hS => by (go_simp)⟩) (HC2.out.cell 1) ?_
  (try simp only [Act.put, List.setIfInBounds_toArray, List.set_cons_zero, List.set_cons_succ])
  refine wpAnyH_val (i := 12) (v := .pointer (some ⟨g, 0, none⟩)) (d := some 92) rfl rfl (by kernel_rfl) (by kernel_rfl) (by kernel_rfl) (fun _ _ _ h => h) (Or.inl ⟨by rfl, fun w hS => by (go_simp)⟩) (HC2.out.cell 1) ?_
  (try simp only [Act.put, List.setIfInBounds_toArray, List.set_cons_zero, List.set_cons_succ])
  have hbs2 : B ≤ u2.heap.size := HS2.out.lo hB
  obtain ⟨⟨q13, c13⟩, f13⟩ := own_cellB HO2.out (j := 0) (by omega)
  refine wpAnyH_oneW (i := 13) rfl (by kernel_rfl) (by rfl) ?_
  go_simp
  obtain ⟨u3, hu3⟩ : ∃ z, z = u2.setCell ⟨g, 0, none⟩ (.int .i64 ((a - 4) * 65536)) := ⟨_, rfl⟩
  have HC3 : Hid (Bk u3 cA 166 #[.int .i64 (i : Int), .slice (some ⟨g, 0, none⟩) 3 vc]) := Lib.hid (by rw [hu3]; exact HC2.out.far (p := ⟨g, 0, none⟩) (Ne.symm hgc) _)
  have HO3 : Hid (u3.ownsRow base 3 1 (.slice (some ⟨g, 0, none⟩) 3 vc) 3 ((vs.set 0 ((a - 4) * 65536)).map (Value.int .i64))) := Lib.hid (by rw [hu3, List.map_set]; exact own_setB HO2.out (by omega) _)
  have HS3 : Hid (StrSt u3 B s) := Lib.hid (HS2.out.kx (B' := B) (F := [3]) (by rw [hu3]; obtain ⟨cs, hk⟩ := own_ty HO2.out (g := g) rfl; exact Kx.refl.set hk hgB (by simp) 0 _) (Nat.le_refl _) hbs2 (by decide))
  have HK3 : Hid (Kx B [189, 3] w0 u3) := Lib.hid (by rw [hu3]; obtain ⟨cs, hk⟩ := own_ty HO2.out (g := g) rfl; exact HK2.out.set hk hgB (by simp) 0 _)
  have HQ3 : Hid (Fq [s] wI u3) := Lib.hid (by rw [hu3]; exact HQ2.out.set (.inr hgI) 0 _)
  rw [← hu3]
  clear hu3 c13 f13
  refine And.intro (HC2.out.cell 1) ?_
  (try simp only [Act.put, List.setIfInBounds_toArray, List.set_cons_zero, List.set_cons_succ])
  have hbs3 : B ≤ u3.heap.size := HS3.out.lo hB
  refine wpAnyH_val (i := 14) (v := .pointer (some ⟨g, 1, none⟩)) (d := some 93) rfl rfl (by kernel_rfl) (by kernel_rfl) (by kernel_rfl) (fun _ _ _ h => h) (Or.inl ⟨by rfl, fun w hS => by (go_simp)⟩) (HC3.out.cell 1) ?_
  (try simp only [Act.put, List.setIfInBounds_toArray, List.set_cons_zero, List.set_cons_succ])
  obtain ⟨⟨q15, c15⟩, f15⟩ := own_cellB HO3.out (j := 1) (by omega)
  refine wpAnyH_oneW (i := 15) rfl (by kernel_rfl) (by rfl) ?_
  go_simp
  obtain ⟨u4, hu4⟩ : ∃ z, z = u3.setCell ⟨g, 1, none⟩ (.int .i64 ((b - 4) * 65536)) := ⟨_, rfl⟩
  have HC4 : Hid (Bk u4 cA 166 #[.int .i64 (i : Int), .slice (some ⟨g, 0, none⟩) 3 vc]) := Lib.hid (by rw [hu4]; exact HC3.out.far (p := ⟨g, 1, none⟩) (Ne.symm hgc) _)
  have HO4 : Hid (u4.ownsRow base 3 1 (.slice (some ⟨g, 0, none⟩) 3 vc) 3 (((vs.set 0 ((a - 4) * 65536)).set 1 ((b - 4) * 65536)).map (Value.int .i64))) := Lib.hid (by rw [hu4, List.map_set]; exact own_setB HO3.out (by omega) _)
  have HS4 : Hid (StrSt u4 B s) := Lib.hid (HS3.out.kx (B' := B) (F := [3]) (by rw [hu4]; obtain ⟨cs, hk⟩ := own_ty HO3.out (g := g) rfl; exact Kx.refl.set hk hgB (by simp) 1 _) (Nat.le_refl _) hbs3 (by decide))
  have HK4 : Hid (Kx B [189, 3] w0 u4) := Lib.hid (by rw [hu4]; obtain ⟨cs, hk⟩ := own_ty HO3.out (g := g) rfl; exact HK3.out.set hk hgB (by simp) 1 _)
  have HQ4 : Hid (Fq [s] wI u4) := Lib.hid (by rw [hu4]; exact HQ3.out.set (.inr hgI) 1 _)
  rw [← hu4]
  clear hu4 c15 f15
  refine And.intro (HC3.out.cell 1) ?_
  (try simp only [Act.put, List.setIfInBounds_toArray, List.set_cons_zero, List.set_cons_succ])
  refine wpAnyH_done (by kernel_rfl) ?_ _
  refine NoPanic.normal ?_
  have HF : Hid (InR kf_p ((vs.set 0 ((a - 4) * 65536)).set 1 ((b - 4) * 65536)) ∧ StrSt u4 B s ∧ Bk u4 cA 166 #[.int .i64 (i : Int), .slice (some ⟨g, 0, none⟩) 3 vc] ∧ u4.ownsRow base 3 1 (.slice (some ⟨g, 0, none⟩) 3 vc) 3 (((vs.set 0 ((a - 4) * 65536)).set 1 ((b - 4) * 65536)).map (Value.int .i64)) ∧ Fq [s] wI u4 ∧ Kx B [189, 3] w0 u4) := Lib.hid ⟨HV.out.place ⟨a0, a1⟩ ⟨b0, b1⟩, HS4.out, HC4.out, HO4.out, HQ4.out, HK4.out⟩
  exact hN _ _ _ _ _ _ _ _ _ _ _ _ _ _ _ _ HF
/-! ### Cb -/
noncomputable def vdKind : Code := (Try.f54.body.bind (blkN 3)).getD .skip
/-- What a round of kinds holds: the stream, the entity with its components so far, what else was there. -/
structure VkI (w wI : World) (B base s hi : Nat) (e g : Int) (CA : Option Addr) (q cc : Nat) (l1 : List Cm) : Prop where
  st : StrSt w B s
  it : Bk w hi 147 #[.int .i64 e, .int .i64 g, .slice CA q cc]
  own : w.ownsRow base 166 2 (.slice CA q cc) q (cmCs l1)
  len : q = l1.length
  cm : ∀ z ∈ l1, CmY w 0 z
  fr : Fr wI.heap.size 0 l1
  fq : Fq [s] wI w
theorem VkI.kx {w w' wI : World} {B base s hi q cc : Nat} {e g : Int} {CA : Option Addr} {l1 : List Cm} (h : VkI w wI B base s hi e g CA q cc l1) (_hB : B ≤ s) (hst : StrSt w' B s) (hq : Fq [s] w w') : VkI w' wI B base s hi e g CA q cc l1 := by
  have hk := Kx.fq (B' := 0) hq h.st (Nat.zero_le _)
  exact ⟨hst, hk.bk h.it (by decide), hk.own h.own (by decide), h.len, fun z hz => (h.cm z hz).keep hk (by decide), h.fr, h.fq.trans hq (SubF.refl _ _)⟩
set_option maxHeartbeats 16000000 in
theorem vdKind_any {x0 x1 x2 x3 x4 x6 x7 x9 x10 x11 x12 x13 x14 x15 x16 x17 x18 x19 x20 x21 x22 x23 x24 x25 x26 x27 x28 x29 x30 x31 x32 x33 x34 x35 x36 x37 x38 x39 x40 x41 x42 x43 x45 x47 x48 x49 x50 x51 x52 x53 x54 x55 x56 x57 x58 x59 x60 x61 x62 x63 x64 x65 x66 x67 x68 x69 x70 x71 x72 x73 x74 x75 x76 x77 x78 x79 x80 x81 x82 x83 x84 x85 x86 x87 x88 x89 x90 x91 x92 x93 x94 x95 x96 x97 x98 x99 x100 x101 x102 x103 x104 x105 x106 x107 x108 : Value} {Q : Exit → Act → World → Prop} {wI w0 : World} {B base s hi i q cc kn kc : Nat} {kA CA : Option Addr} {ks : List Kd} {k : Kd} {e g : Int} {l1 : List Cm}
    (hk : KsY w0 0 kA kn kc ks) (hkk : ks[i]? = some k) (hone : oneF k.nm k.fds = 0) (hpl : k.nm = kn_p → k.fds = kf_p) (hI : VkI w0 wI B base s hi e g CA q cc l1)
    (hB : B ≤ s) (hBb : B ≤ base) (hbI : wI.heap.size ≤ base) (hhi : base ≤ hi) (hq : q ≤ 64) (hb0 : base ≤ w0.heap.size) (hi8 : i ≤ 64)
    (hSkip : ∀ (y9 y10 y11 y13 y48 y49 y50 y51 y52 y53 y54 y55 y56 y57 y58 y59 y60 y61 y62 y63 y64 y65 y66 y67 y68 y69 y70 y71 y72 y73 y74 y75 y76 y77 y78 y79 y80 y81 y82 y83 y84 y85 y86 y87 y88 y89 y90 y91 y92 y93 y94 y95 y96 y97 y98 y99 : Value) (w' : World), Hid (VkI w' wI B base s hi e g CA q cc l1 ∧ Fq [s] w0 w') → Q .normal ⟨#[x0, x1, x2, x3, x4, .pointer (some ⟨s, 0, none⟩), x6, x7, .pointer (some ⟨hi, 0, none⟩), y9, y10, y11, x12, y13, x14, x15, x16, x17, x18, x19, x20, x21, x22, x23, x24, x25, x26, x27, x28, x29, x30, x31, x32, x33, x34, x35, x36, x37, x38, x39, x40, x41, x42, x43, .slice kA kn kc, x45, .int .i64 (i : Int), x47, y48, y49, y50, y51, y52, y53, y54, y55, y56, y57, y58, y59, y60, y61, y62, y63, y64, y65, y66, y67, y68, y69, y70, y71, y72, y73, y74, y75, y76, y77, y78, y79, y80, y81, y82, y83, y84, y85, y86, y87, y88, y89, y90, y91, y92, y93, y94, y95, y96, y97, y98, y99, x100, x101, x102, x103, x104, x105, x106, x107, x108], []⟩ w')
    (hAdd : ∀ (y9 y10 y11 y13 y48 y49 y50 y51 y52 y53 y54 y55 y56 y57 y58 y59 y60 y61 y62 y63 y64 y65 y66 y67 y68 y69 y70 y71 y72 y73 y74 y75 y76 y77 y78 y79 y80 y81 y82 y83 y84 y85 y86 y87 y88 y89 y90 y91 y92 y93 y94 y95 y96 y97 y98 y99 : Value) (vs : List Int) (VA : Option Addr) (vc gA cA : Nat) (w' : World), Hid (holdK k.p vs = true ∧ VkI w' wI B base s hi e g (some ⟨gA, 0, none⟩) (q + 1) cA (l1 ++ [(⟨i, VA, vs.length, vc, vs⟩ : Cm)]) ∧ KsY w' 0 kA kn kc ks) → Q .normal ⟨#[x0, x1, x2, x3, x4, .pointer (some ⟨s, 0, none⟩), x6, x7, .pointer (some ⟨hi, 0, none⟩), y9, y10, y11, x12, y13, x14, x15, x16, x17, x18, x19, x20, x21, x22, x23, x24, x25, x26, x27, x28, x29, x30, x31, x32, x33, x34, x35, x36, x37, x38, x39, x40, x41, x42, x43, .slice kA kn kc, x45, .int .i64 (i : Int), x47, y48, y49, y50, y51, y52, y53, y54, y55, y56, y57, y58, y59, y60, y61, y62, y63, y64, y65, y66, y67, y68, y69, y70, y71, y72, y73, y74, y75, y76, y77, y78, y79, y80, y81, y82, y83, y84, y85, y86, y87, y88, y89, y90, y91, y92, y93, y94, y95, y96, y97, y98, y99, x100, x101, x102, x103, x104, x105, x106, x107, x108], []⟩ w') :
    Code.wp Try.prog vdKind Q ⟨#[x0, x1, x2, x3, x4, .pointer (some ⟨s, 0, none⟩), x6, x7, .pointer (some ⟨hi, 0, none⟩), x9, x10, x11, x12, x13, x14, x15, x16, x17, x18, x19, x20, x21, x22, x23, x24, x25, x26, x27, x28, x29, x30, x31, x32, x33, x34, x35, x36, x37, x38, x39, x40, x41, x42, x43, .slice kA kn kc, x45, .int .i64 (i : Int), x47, x48, x49, x50, x51, x52, x53, x54, x55, x56, x57, x58, x59, x60, x61, x62, x63, x64, x65, x66, x67, x68, x69, x70, x71, x72, x73, x74, x75, x76, x77, x78, x79, x80, x81, x82, x83, x84, x85, x86, x87, x88, x89, x90, x91, x92, x93, x94, x95, x96, x97, x98, x99, x100, x101, x102, x103, x104, x105, x106, x107, x108], []⟩ w0 := by
  conv => arg 2; whnf
  obtain ⟨i1, hi1, hz10, hz11, hz12⟩ := info_parts T.infoCm
  have HNX := Lib.hid next_any
  have HK := Lib.hid hk
  have HKK := Lib.hid hkk
  have HI := Lib.hid hI
  have hin : i < kn := by have := (List.getElem?_eq_some_iff.1 hkk).1; have := hk.len; omega
  have hinz : (i : Int) < kn := by omega
  have hinz0 : (0 : Int) ≤ i := by omega
  have hcap := hk.cap
  have hcap2 := hk.cap2
  have hko := hk.ok k (List.mem_of_getElem? hkk)
  obtain ⟨b, o, rfl, hbb, q0, q1⟩ := hk.rd.rd.kd hin hkk
  obtain ⟨hkd, hhkd⟩ : ∃ z, z = w0.heap.size := ⟨_, rfl⟩
  obtain ⟨w1, hw1⟩ : ∃ w1, w1 = w0.alloc (.cells #[.string k.nm, .slice k.A k.n k.c] 63) := ⟨_, rfl⟩
  have HK1 : Hid (Bk w1 hkd 63 #[.string k.nm, .slice k.A k.n k.c]) := Lib.hid (by rw [hw1, hhkd]; exact Bk.new _ _ _)
  have HB1 : Hid (Below w0.heap.size w0 w1) := Lib.hid (by rw [hw1]; exact (Below.refl _ _).alloc (Nat.le_refl _) _)
  have HS1 : Hid (StrSt w1 B s) := Lib.hid (hI.st.below HB1.out (hI.st.lo hB))
  have HKO := Lib.hid hko
  have HON := Lib.hid (And.intro hone hpl)
  have hf8 : k.n ≤ 8 := by rw [hko.len]; exact oneF_len hone
  have hkcap := hko.cap
  have hkcap2 := hko.cap2
  have hks : hkd ≠ s := by
    obtain ⟨cs, h⟩ := hI.st.bk
    have := h.lt
    omega
  clear hk hkk hko hI hone hpl
  generalize hknm : k.nm = knm at *
  generalize hkA : k.A = fA at *
  generalize hkn : k.n = fn at *
  generalize hkc : k.c = fc at *
  have HKV := Lib.hid (And.intro hknm (And.intro hkA (And.intro hkn hkc)))
  clear hknm hkA hkn hkc
  go_upto_region 12 with fail
  rw [← hw1, ← hhkd]
  clear hw1 q0 q1
  have HHK := Lib.hid hhkd
  clear hhkd
  go_wp2_with fail
  (with_reducible refine (HNX.out s B 4 _ HS1.out hB (by omega) (by omega)).mono ?_)
  rintro e' w2 ⟨v, rfl, hv0, hv1, hst2, hg2⟩
  have HK2 : Hid (Bk w2 hkd 63 #[.string knm, .slice fA fn fc]) := Lib.hid (HK1.out.grown hg2 (fun e => by injection e with e; omega))
  have HQ2 : Hid (Fq [s] w0 w2) := Lib.hid ((Fq.of_below HB1.out).grown hg2 fun g hg => .inl (by injection hg with hg; simp [hg]))
  have HI2 : Hid (VkI w2 wI B base s hi e g CA q cc l1) := Lib.hid (HI.out.kx hB hst2 HQ2.out)
  have HW2 : Hid (w0.heap.size < w2.heap.size) := Lib.hid (by have h1 := HK1.out.lt; have h2 := hg2.size; have h3 := HHK.out; omega)
  clear hst2 hg2 HK1 HS1 HB1
  by_cases hv3 : v = 3
  · have t2 : (v == 3) = true := by simp [hv3]
    have HF : Hid (VkI w2 wI B base s hi e g CA q cc l1 ∧ Fq [s] w0 w2) := Lib.hid ⟨HI2.out, HQ2.out⟩
    clear hv3
    go_wp2_with fail
    (try simp only [Exit.inBlock, Exit.then])
    first
      | exact HF
      | exact hSkip _ _ _ _ _ _ _ _ _ _ _ _ _ _ _ _ _ _ _ _ _ _ _ _ _ _ _ _ _ _ _ _ _ _ _ _ _ _ _ _ _ _ _ _ _ _ _ _ _ _ _ _ _ _ _ _ _ HF
  · have t2 : (v == 3) = false := by simp [hv3]
    clear hv3
    have c1 : w2.cell? ⟨hkd, 1, none⟩ = some (.slice fA fn fc) := HK2.out.cell 1
    have c2 : (w2.alloc (.cells #[.int .i64 (i : Int), .slice none 0 0] 166)).cell? ⟨hkd, 1, none⟩ = some (.slice fA fn fc) := (HK2.out.alloc _).cell 1
    obtain ⟨w3, hw3⟩ : ∃ w3, w3 = w2.alloc (.cells #[.int .i64 (i : Int), .slice none 0 0] 166) := ⟨_, rfl⟩
    obtain ⟨cA, hcA⟩ : ∃ z, z = w2.heap.size := ⟨_, rfl⟩
    have HB3 : Hid (Below w2.heap.size w2 w3) := Lib.hid (by rw [hw3]; exact (Below.refl _ _).alloc (Nat.le_refl _) _)
    have HC3 : Hid (Bk w3 cA 166 #[.int .i64 (i : Int), .slice none 0 0]) := Lib.hid (by rw [hw3, hcA]; exact Bk.new _ _ _)
    have HS3 : Hid (StrSt w3 B s) := Lib.hid (HI2.out.st.below HB3.out (HI2.out.st.lo hB))
    have HK3 : Hid (Bk w3 hkd 63 #[.string knm, .slice fA fn fc]) := Lib.hid (HK2.out.below HB3.out HK2.out.lt)
    have HQ3 : Hid (Fq [s] w2 w3) := Lib.hid (Fq.of_below HB3.out)
    have HRD : Hid (RdY w3 B 66 3 fA fn (fdCs k.fds)) := Lib.hid (by
      have h := ((HKO.out.rd.keep (Kx.fq (B' := 0) HQ2.out HI.out.st (Nat.zero_le _)) (by decide)).keep (Kx.of_below (B := 0) (F := []) HB3.out) (by simp)).more (Nat.zero_le B)
      rw [HKV.out.2.1, HKV.out.2.2.1] at h
      exact h)
    have HLN : Hid (fn = k.fds.length) := Lib.hid (by rw [← HKV.out.2.2.1]; exact HKO.out.len)
    have HFO : Hid (∀ f ∈ k.fds, fieldF f = 0) := Lib.hid fun f hf => one_ok HON.out.1 hf
    have HWB : Hid (B ≤ w2.heap.size ∧ w2.heap.size ≤ w3.heap.size ∧ w2.heap.size ≤ cA) := Lib.hid ⟨by have := HW2.out; omega, HB3.out.size, by omega⟩
    have HCW := Lib.hid hcA
    go_upto_block 4 with fail
    rw [← hw3, ← hcA]
    clear c1 c2 hw3 hcA
    refine vdLoop_any (wI := w2) (base := w2.heap.size) HS3.out hB HRD.out HLN.out (by omega) (by omega) HFO.out (by omega) HC3.out HWB.out.1 HWB.out.2.1 HWB.out.2.2 HQ3.out (Nat.le_refl _) ?_
    intros
    rename_i vs VA vc w4 H4
    have HK4 : Hid (Bk w4 hkd 63 #[.string knm, .slice fA fn fc]) := Lib.hid (H4.out.2.2.2.2.2.bk HK3.out (by decide))
    have HIN4 : Hid (InR k.fds vs) := Lib.hid H4.out.1
    have HST4 : Hid (StrSt w4 B s ∧ Bk w4 cA 166 #[.int .i64 (i : Int), .slice VA fn vc] ∧ w4.ownsRow w2.heap.size 3 1 (.slice VA fn vc) fn (vs.map (Value.int .i64)) ∧ Fq [s] w2 w4) := Lib.hid ⟨H4.out.2.1, H4.out.2.2.1, H4.out.2.2.2.1, H4.out.2.2.2.2.1⟩
    clear H4 HK3 HC3 HS3 HQ3 HRD HB3
    have d0 : w4.cell? ⟨hkd, 0, none⟩ = some (.string knm) := HK4.out.cell 0
    have HEND : Hid (∀ (vs2 : List Int) (w5 : World), InR k.fds vs2 → StrSt w5 B s → Bk w5 cA 166 #[.int .i64 (i : Int), .slice VA fn vc] → w5.ownsRow w2.heap.size 3 1 (.slice VA fn vc) fn (vs2.map (Value.int .i64)) → Fq [s] w2 w5 →
        (w5.cell? ⟨cA, 0, none⟩ = some (.int .i64 (i : Int)) ∧ w5.cell? ⟨cA, 1, none⟩ = some (.slice VA fn vc) ∧ w5.cell? ⟨hi, 2, none⟩ = some (.slice CA q cc) ∧ w5.ownsRow base 166 2 (.slice CA q cc) q (cmCs l1) ∧ base ≤ w5.heap.size) ∧
        ∀ g8 c8 w8, w8.ownsRow base 166 2 (.slice (some ⟨g8, 0, none⟩) (q + 1) c8) (q + 1) (cmCs l1 ++ [.int .i64 (i : Int), .slice VA fn vc]) → (w5.alloc (.cells #[.int .i64 (i : Int), .slice VA fn vc] 166)).grownBy w8 (Value.slice CA q cc).ownBlock →
          (w8.cell? ⟨hi, 2, none⟩ = some (.slice CA q cc) ∧ w8.frozen? ⟨hi, 2, none⟩ = false) ∧
          Hid (holdK k.p vs2 = true ∧ VkI (w8.setCell ⟨hi, 2, none⟩ (.slice (some ⟨g8, 0, none⟩) (q + 1) c8)) wI B base s hi e g (some ⟨g8, 0, none⟩) (q + 1) c8 (l1 ++ [(⟨i, VA, vs2.length, vc, vs2⟩ : Cm)]) ∧ KsY (w8.setCell ⟨hi, 2, none⟩ (.slice (some ⟨g8, 0, none⟩) (q + 1) c8)) 0 (some ⟨b, o, none⟩) kn kc ks)) := Lib.hid fun vs2 w5 hin5 hst5 hc5 ho5 hq5 => by
      have hI5 := HI2.out.kx hB hst5 hq5
      have hsz5 : w2.heap.size ≤ w5.heap.size := hq5.size
      refine ⟨⟨hc5.cell 0, hc5.cell 1, hI5.it.cell 2, hI5.own, by have := HW2.out; omega⟩, fun g8 c8 w8 hown8 hg8 => ?_⟩
      have hit8 := (hI5.it.alloc (.cells #[.int .i64 (i : Int), .slice VA fn vc] 166)).grown hg8 (fun e => own_ne hI5.own hI5.it (by decide) e.symm)
      refine ⟨⟨hit8.cell 2, hit8.frozen 2⟩, Lib.hid ?_⟩
      have hBw : B ≤ base := hBb
      have hkx : Kx B [166, 147] w5 (w8.setCell ⟨hi, 2, none⟩ (.slice (some ⟨g8, 0, none⟩) (q + 1) c8)) := ((((Kx.refl (B := B)).alloc _).grown (hI5.own.alloc _) hg8 hBw (by simp)).set hit8 (by omega) (by simp) 2 _)
      have hk0 : Kx 0 [166, 147] w5 (w8.setCell ⟨hi, 2, none⟩ (.slice (some ⟨g8, 0, none⟩) (q + 1) c8)) := hkx.mono (Nat.zero_le _) (fun _ h => h)
      have hcp := own_cap2 ho5
      have hvl : vs2.length = fn := by rw [hin5.1]; exact HLN.out.symm
      refine ⟨(by show holdK (k.nm, k.fds) vs2 = true; rw [HKV.out.1]; exact hin5.hold HON.out.1), ⟨hst5.kx hkx (Nat.le_refl _) (hst5.lo hB) (by decide), by simpa using hit8.set_ 2 (.slice (some ⟨g8, 0, none⟩) (q + 1) c8), ?_, by rw [List.length_append, ← HI.out.len]; rfl, fun z hz => ?_, fun z hz hn b o hA => ?_, ?_⟩, ?_⟩
      · rw [show cmCs (l1 ++ [(⟨i, VA, vs2.length, vc, vs2⟩ : Cm)]) = cmCs l1 ++ [.int .i64 (i : Int), .slice VA fn vc] by simp [cmCs, Cm.cs, hvl]]
        exact own_far hown8 hit8 (by decide) 2 _
      · rcases List.mem_append.1 hz with hz | hz
        · exact (hI5.cm z hz).keep hk0 (by decide)
        · rw [show z = ⟨i, VA, vs2.length, vc, vs2⟩ by simpa using hz]
          refine ⟨?_, rfl, by show vs2.length ≤ vc; omega, hcp.2, wf_i64 (by show _ ≤ ((i : Nat) : Int); omega) (by show ((i : Nat) : Int) ≤ _; omega)⟩
          show RdY _ 0 3 1 VA vs2.length _
          rw [hvl]
          exact (RdY.of_own ho5).keep hk0 (by decide)
      · rcases List.mem_append.1 hz with hz | hz
        · exact HI.out.fr z hz hn b o hA
        · rw [show z = ⟨i, VA, vs2.length, vc, vs2⟩ by simpa using hz] at hA
          have hA : VA = some ⟨b, o, none⟩ := hA
          subst hA
          have := (ho5.lt b rfl).1
          have := HW2.out
          exact .inr (by omega)
      · exact ((hI5.fq.alloc _).grown hg8 (fun g hg => .inr (by have := (hI5.own.lt g hg).1; omega))).set (.inr (by omega)) 2 _
      · exact (HK.out.keep (Kx.fq (B' := 0) (HQ2.out.trans hq5 (SubF.refl _ _)) HI.out.st (Nat.zero_le _)) (by decide) (by decide)).keep hk0 (by decide) (by decide)
    have HFIN : Hid (∀ (vs2 : List Int) (w5 : World), InR k.fds vs2 → vs2.length = fn) := Lib.hid fun vs2 _ h => by rw [h.1]; exact HLN.out.symm
    by_cases hp : knm = kn_p
    · have HFP : Hid (k.fds = kf_p ∧ fn = 3) := Lib.hid (by
        have h1 := HON.out.2 hp
        exact ⟨h1, by rw [HLN.out, h1]; rfl⟩)
      obtain rfl : fn = 3 := HFP.out.2
      have t3 : (knm.toList == kn_p.toList) = true := by rw [hp]; simp
      have t4 : (knm.toList == [112, 108, 97, 99, 101]) = true := by rw [hp]; decide +kernel
      clear hp
      go_upto_region 20 with fail
      refine vdPlace_any (wI := w2) (base := w2.heap.size) HST4.out.1 hB HST4.out.2.1 HST4.out.2.2.1 (by rw [← HFP.out.1]; exact HIN4.out) HWB.out.1 HST4.out.2.2.2 (Nat.le_refl _) ?_
      intros
      rename_i vs2 w5 H5
      have hE := HEND.out vs2 w5 (by rw [HFP.out.1]; exact H5.out.1) H5.out.2.1 H5.out.2.2.1 H5.out.2.2.2.1 H5.out.2.2.2.2.1
      have HE8 := Lib.hid hE.2
      have e0 := hE.1.1
      have e1 := hE.1.2.1
      have e2 := hE.1.2.2.1
      have HOW := Lib.hid hE.1.2.2.2.1
      have hbw : base ≤ w5.heap.size := hE.1.2.2.2.2
      clear hE HEND H5 HST4 HIN4 HK4 d0
      go_wp2_with
        (at_builtin
         go_must (refine wpList_append_one _ rfl (.tmp 95) (.tmp 97) _ rfl base 166 i1 (.agg #[.int .i64 0, .slice none 0 0]) 2 32 Try.underlying38 hi1 hz10 hz11 hz12 rfl (by decide) (.slice CA q cc) q (cmCs l1) rfl (HOW.out.alloc _) w5.heap.size 1 166 #[.int .i64 (i : Int), .slice VA 3 vc] rfl (Bk.new _ _ _) rfl ?c1 (q + 1) rfl ?c2 ?c3 ?c4 ?_)
         case c1 => simp [Value.oneCell']
         case c2 => unfold maxLen; omega
         case c3 => omega
         case c4 => (simp; omega)
         intro g8 c8 w8 hown8 hg8 hat8
         have hE := HE8.out g8 c8 w8 hown8 hg8
         have z0 := hE.1.1
         have z1 := hE.1.2
         have HF := hE.2
         clear hE hown8 hg8 hat8)
      (try simp only [Exit.inBlock, Exit.then])
      first
        | exact HF
        | exact hAdd _ _ _ _ _ _ _ _ _ _ _ _ _ _ _ _ _ _ _ _ _ _ _ _ _ _ _ _ _ _ _ _ _ _ _ _ _ _ _ _ _ _ _ _ _ _ _ _ _ _ _ _ _ _ _ _ _ _ _ _ _ _ HF
    · have t3 : (knm.toList == kn_p.toList) = false := ba_tl_ne hp
      have t4 : (knm.toList == [112, 108, 97, 99, 101]) = false := by (rw [show ([112, 108, 97, 99, 101] : List UInt8) = kn_p.toList by decide +kernel]; exact t3)
      clear hp
      have hE := HEND.out vs w4 HIN4.out HST4.out.1 HST4.out.2.1 HST4.out.2.2.1 HST4.out.2.2.2
      have HE8 := Lib.hid hE.2
      have e0 := hE.1.1
      have e1 := hE.1.2.1
      have e2 := hE.1.2.2.1
      have HOW := Lib.hid hE.1.2.2.2.1
      have hbw : base ≤ w4.heap.size := hE.1.2.2.2.2
      clear hE HEND HST4 HIN4 HK4
      go_wp2_with
        (at_builtin
         go_must (refine wpList_append_one _ rfl (.tmp 95) (.tmp 97) _ rfl base 166 i1 (.agg #[.int .i64 0, .slice none 0 0]) 2 32 Try.underlying38 hi1 hz10 hz11 hz12 rfl (by decide) (.slice CA q cc) q (cmCs l1) rfl (HOW.out.alloc _) w4.heap.size 1 166 #[.int .i64 (i : Int), .slice VA fn vc] rfl (Bk.new _ _ _) rfl ?c1 (q + 1) rfl ?c2 ?c3 ?c4 ?_)
         case c1 => simp [Value.oneCell']
         case c2 => unfold maxLen; omega
         case c3 => omega
         case c4 => (simp; omega)
         intro g8 c8 w8 hown8 hg8 hat8
         have hE := HE8.out g8 c8 w8 hown8 hg8
         have z0 := hE.1.1
         have z1 := hE.1.2
         have HF := hE.2
         clear hE hown8 hg8 hat8)
      (try simp only [Exit.inBlock, Exit.then])
      first
        | exact HF
        | exact hAdd _ _ _ _ _ _ _ _ _ _ _ _ _ _ _ _ _ _ _ _ _ _ _ _ _ _ _ _ _ _ _ _ _ _ _ _ _ _ _ _ _ _ _ _ _ _ _ _ _ _ _ _ _ _ _ _ _ _ _ _ _ _ HF
end Go.Proofs.Ytnidcmhfbkdioaa
