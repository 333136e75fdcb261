/-
  Lemmas for the walk, merged (Ko Kp Kq Bv Bw By Bz Ca). No condition but those in each statement.
-/
import Derived.Test.YtnidcmhfbkdioaaSk13
import Derived.Test.YtnidcmhfbkdioaaSk6
namespace Go.Proofs.Ytnidcmhfbkdioaa
/-! ### Ko -/
open Go.RowKit
set_option maxRecDepth 100000
theorem oneF_small {nm : ByteArray} {fds : List Fd} (h : oneF nm fds = 0) : fds.length ≤ 8 := by
  unfold oneF at h
  split at h
  · cases h
  · split at h
    · cases h
    · omega
theorem chkF_small : ∀ (l seen : List (ByteArray × List Fd)), chkF seen l = 0 → ∀ k ∈ l, k.2.length ≤ 8
  | [], _, _, _, hk => by cases hk
  | a :: l, seen, h, k, hk => by
    rw [chkF_at] at h
    split at h
    · rename_i h1; exact absurd h h1
    · rename_i h1
      split at h
      · cases h
      · rcases List.mem_cons.1 hk with rfl | hk
        · exact oneF_small (Decidable.not_not.1 h1)
        · exact chkF_small l _ h k hk
theorem checkF_small {l : List (ByteArray × List Fd)} (h : checkF l = 0) : ∀ k ∈ l, k.2.length ≤ 8 := by
  unfold checkF at h
  split at h
  · cases h
  · exact chkF_small _ _ h
theorem mapFault_says {w : World} {B n c : Nat} {A : Option Addr} {ks : List Kd} (h : KsOk w B A n c ks) : Calls Try.prog 20 #[.slice A n c] w (OfP w (mapF (ks.map Kd.p))) :=
  mapFault_any h fun h0 k hk => by
    have h1 := checkF_small h0 (Kd.p k) (List.mem_map_of_mem hk)
    have h2 := (h.ok k hk).len
    have h3 : (Kd.p k).2 = k.fds := rfl
    rw [h3] at h1
    omega
theorem of_says {w : World} {B n c : Nat} {A : Option Addr} {ks : List Kd} (h : KsOk w B A n c ks) : Calls Try.prog 19 #[.slice A n c] w (OfP w (mapF (ks.map Kd.p))) := by
  have := of_any h
  rwa [of_is_map] at this
theorem results_cell_one {fn : Func} {p : Tmp} {ty : TypeId} (h : fn.results = #[.cell p ty]) (tmps : Array Value) (P : Program) (w : World) :
    (results fn tmps).run P w = ((asAddr (tmps.getD p undef)).run P w).andThen fun a w₁ => (loadVar ty a).run P w₁ := by
  simp only [results, h]
  simp [Sem.run_bind, Result.andThen]
set_option maxHeartbeats 800000 in
theorem fieldMk_any (nm : ByteArray) (b l : Int) (w : World) : Calls Try.prog 167 #[.string nm, .int .i64 b, .int .i64 l] w fun e w' => e = .returned (.agg #[.string nm, .int .i64 b, .int .i64 l]) ∧ Below w.heap.size w w' := by
  have hk := Bk.new w 66 #[.string ByteArray.empty, .int .i64 0, .int .i64 0]
  have q0 := hk.cell 0
  have q1 := hk.cell 1
  have q2 := hk.cell 2
  have g0 := hk.frozen 0
  have g1 := hk.frozen 1
  have g2 := hk.frozen 2
  simp only [List.getElem?_toArray, List.getElem?_cons_zero, List.getElem?_cons_succ] at q0 q1 q2
  clear hk
  go_enter Try.func167, Try.ntmps167
  go_wp2_with fail
  (try simp only [Exit.inBlock, Exit.then])
  refine bodyPost_ret (v := .agg #[.string nm, .int .i64 b, .int .i64 l]) ?_ rfl ⟨rfl, ?_⟩
  · rw [results_cell_one rfl]
    go_simp
  · exact (Below.refl _ w).alloc (Nat.le_refl _) _
/-! ### Kp -/
def BodiesSay : Prop := ∀ w : World, Calls Try.prog 21 #[] w fun e w' => e = .returned (.bool true) ∧ Below w.heap.size w w'
/-! ### Kq -/
theorem own_keep {w w' : World} {base : Nat} {e : TypeId} {size n : Nat} {v : Value} {xs : List Value} (h : w.ownsRow base e size v n xs) (hb : Below w.heap.size w w') : w'.ownsRow base e size v n xs :=
  h.kept (row := none) ⟨hb.os, hb.tape, hb.output, hb.size, fun k hk _ => hb.block k hk⟩ (by cases hv : v.ownBlock <;> simp)
theorem T.info63 : (Try.prog.info? 63).map (fun i => (i.zero, i.size, i.bytes)) = some (some (.agg #[.string ByteArray.empty, .slice none 0 0]), 2, 40) := by kernel_rfl
theorem and41 : (bits BinOp.and IntKind.i64 4 1 == 1) = false := by decide +kernel
theorem and42 : (bits BinOp.and IntKind.i64 4 2 == 2) = false := by decide +kernel
theorem and44 : (bits BinOp.and IntKind.i64 4 4 == 4) = true := by decide +kernel
/-- A kind whose fields lie in a block of the call's own. -/
structure Bd where
  nm : ByteArray
  g : Nat
  fds : List Fd
def Bd.kd (x : Bd) : Kd := ⟨x.nm, some ⟨x.g, 0, none⟩, x.fds.length, x.fds.length, x.fds⟩
theorem kdCs_append (a b : List Kd) : kdCs (a ++ b) = kdCs a ++ kdCs b := by simp [kdCs]
structure KSt (w wr : World) (S : Value) (m : Nat) (l : List Bd) : Prop where
  own : wr.ownsRow w.heap.size 63 2 S m (kdCs (l.map Bd.kd))
  bk : ∀ x ∈ l, Bk wr x.g 66 (fdCs x.fds).toArray
  bl : Below w.heap.size w wr
theorem KSt.below {w wr w' : World} {S : Value} {m : Nat} {l : List Bd} (h : KSt w wr S m l) (hb : Below wr.heap.size wr w') : KSt w w' S m l :=
  ⟨own_keep h.own hb, fun x hx => (h.bk x hx).below hb (h.bk x hx).lt, h.bl.trans (hb.mono h.bl.size)⟩
theorem KSt.start {w wr : World} (hb : Below w.heap.size w wr) (x : Bd) (hx : x.g = wr.heap.size) :
    KSt w ((wr.alloc (.cells (fdCs x.fds).toArray 66)).alloc (.cells x.kd.cs.toArray 63)) (.slice (some ⟨wr.heap.size + 1, 0, none⟩) 1 1) 1 [x] := by
  have hs := hb.size
  refine ⟨?_, fun y hy => ?_, (hb.alloc hs _).alloc (by simp; omega) _⟩
  · have := World.ownsRow_lit (base := w.heap.size) (e := 63) (size := 2) (wr.alloc (.cells (fdCs x.fds).toArray 66)) x.kd.cs.toArray 1 (by simp; omega) (by decide) rfl
    simpa [kdCs] using this
  · rw [List.mem_singleton.1 hy, hx]
    exact (Bk.new wr 66 _).alloc _
theorem KSt.push {w wr w' : World} {S S' : Value} {m : Nat} {l : List Bd} (h : KSt w wr S m l) (x : Bd) (hx : x.g = wr.heap.size)
    (hown : w'.ownsRow w.heap.size 63 2 S' (m + 1) (kdCs (l.map Bd.kd) ++ x.kd.cs.toArray.toList)) (hg : ((wr.alloc (.cells (fdCs x.fds).toArray 66)).alloc (.cells x.kd.cs.toArray 63)).grownBy w' S.ownBlock) :
    KSt w w' S' (m + 1) (l ++ [x]) := by
  have hs := h.bl.size
  have ho := (h.own.alloc (.cells (fdCs x.fds).toArray 66)).alloc (.cells x.kd.cs.toArray 63)
  refine ⟨?_, fun y hy => ?_, ((h.bl.alloc hs _).alloc (by simp; omega) _).grown hg (by simp; omega) fun q hq => (h.own.lt q hq).1⟩
  · rw [List.map_append, kdCs_append]
    simpa [kdCs] using hown
  · have hb : Bk ((wr.alloc (.cells (fdCs x.fds).toArray 66)).alloc (.cells x.kd.cs.toArray 63)) y.g 66 (fdCs y.fds).toArray := by
      rcases List.mem_append.1 hy with hy | hy
      · exact ((h.bk y hy).alloc _).alloc _
      · rw [List.mem_singleton.1 hy, hx]
        exact (Bk.new wr 66 _).alloc _
    exact hb.grown hg fun e => own_ne ho hb (by decide) e.symm
theorem KSt.ks {w wr : World} {A : Option Addr} {m c : Nat} {l : List Bd} (h : KSt w wr (.slice A m c) m l) (hm : m = l.length) (hc : m ≤ c) (hc2 : c ≤ 9223372036854775807) (hl : ∀ x ∈ l, x.fds.length ≤ 8) : KsOk wr wr.heap.size A m c (l.map Bd.kd) := by
  refine ⟨Rd.of_own h.own, by rw [List.length_map]; exact hm, hc, hc2, fun k hk => ?_, Nat.le_refl _⟩
  obtain ⟨x, hx, rfl⟩ := List.mem_map.1 hk
  have hb := h.bk x hx
  refine ⟨⟨?_, fun _ => ⟨_, _, rfl, hb.lt, fun j u hu => ?_⟩⟩, rfl, Nat.le_refl _, ?_⟩
  · show (fdCs x.fds).length = x.fds.length * 3
    generalize x.fds = f
    induction f with
    | nil => rfl
    | cons a f ih => simp only [fdCs, List.flatMap_cons] at ih ⊢; rw [List.length_append, ih]; simp [Fd.cs]; omega
  · rw [Nat.zero_add]
    exact (hb.cell j).trans (by have hu' : (fdCs x.fds)[j]? = some u := hu; simpa using hu')
  · have := hl x hx
    show x.fds.length ≤ _
    omega
def k4f0 : List Fd := [⟨⟨#[120]⟩, 8, (-100)⟩, ⟨⟨#[121]⟩, 8, (-100)⟩]
def k4n0 : ByteArray := ⟨#[115, 112, 111, 116]⟩
def k4f1 : List Fd := [⟨⟨#[120]⟩, 26, (-33554432)⟩, ⟨⟨#[121]⟩, 26, (-33554432)⟩, ⟨⟨#[97, 110, 103]⟩, 16, 0⟩]
def k4n1 : ByteArray := ⟨#[112, 108, 97, 99, 101]⟩
def k4f2 : List Fd := [⟨⟨#[118, 120]⟩, 22, (-2097152)⟩, ⟨⟨#[118, 121]⟩, 22, (-2097152)⟩, ⟨⟨#[115, 112, 105, 110]⟩, 18, (-131072)⟩, ⟨⟨#[99, 97, 108, 109]⟩, 12, 0⟩]
def k4n2 : ByteArray := ⟨#[109, 111, 116, 105, 111, 110]⟩
def k4f3 : List Fd := [⟨⟨#[119]⟩, 18, 4096⟩, ⟨⟨#[104]⟩, 18, 4096⟩, ⟨⟨#[109, 97, 115, 115]⟩, 20, 0⟩, ⟨⟨#[98, 111, 117, 110, 99, 101]⟩, 17, 0⟩, ⟨⟨#[114, 117, 98]⟩, 17, 0⟩]
def k4n3 : ByteArray := ⟨#[115, 104, 97, 112, 101]⟩
def k4 : List (ByteArray × List Fd) := [(k4n0, k4f0), (k4n1, k4f1), (k4n2, k4f2), (k4n3, k4f3)]
def Kinds4P (w : World) (e : Ending) (w' : World) : Prop := ∃ A c ks, e = .returned (.slice A 4 c) ∧ KsOk w' w'.heap.size A 4 c ks ∧ ks.map Kd.p = k4 ∧ Below w.heap.size w w'
set_option maxHeartbeats 3200000 in
theorem kinds4_any (w : World) : Calls Try.prog 96 #[.int .i64 4] w (Kinds4P w) := by
  obtain ⟨i0, hi0, hz0, hz1, hz2⟩ := info_parts T.info63
  have HF := Lib.hid fieldMk_any
  have t1 := and41
  have t2 := and42
  have t3 := and44
  go_enter Try.func96, Try.ntmps96
  go_wp2_with fail
  refine (HF.out ⟨#[120]⟩ 8 (-100) _).mono ?_
  rintro e w1 ⟨rfl, hb1⟩
  have HB1 := Lib.hid hb1
  clear hb1
  go_wp2_with fail
  refine (HF.out ⟨#[121]⟩ 8 (-100) _).mono ?_
  rintro e w2 ⟨rfl, hb2⟩
  have HB2 := Lib.hid (HB1.out.trans (hb2.mono HB1.out.size))
  clear hb2 HB1
  have HS : Hid (KSt w ((w2.alloc (.cells #[.string ⟨#[120]⟩, .int .i64 8, .int .i64 (-100), .string ⟨#[121]⟩, .int .i64 8, .int .i64 (-100)] 66)).alloc (.cells #[.string ⟨#[115, 112, 111, 116]⟩, .slice (some ⟨w2.heap.size, 0, none⟩) 2 2] 63)) (.slice (some ⟨w2.heap.size + 1, 0, none⟩) 1 1) 1 [⟨k4n0, w2.heap.size, k4f0⟩]) := Lib.hid (KSt.start HB2.out ⟨k4n0, w2.heap.size, k4f0⟩ rfl)
  clear HB2
  go_wp2_with fail
  refine (HF.out ⟨#[120]⟩ 26 (-33554432) _).mono ?_
  rintro e w3 ⟨rfl, hb3⟩
  have HS3 := Lib.hid (HS.out.below hb3)
  clear hb3 HS
  go_wp2_with fail
  refine (HF.out ⟨#[121]⟩ 26 (-33554432) _).mono ?_
  rintro e w4 ⟨rfl, hb4⟩
  have HS4 := Lib.hid (HS3.out.below hb4)
  clear hb4 HS3
  go_wp2_with fail
  refine (HF.out ⟨#[97, 110, 103]⟩ 16 0 _).mono ?_
  rintro e w5 ⟨rfl, hb5⟩
  have HS5 := Lib.hid (HS4.out.below hb5)
  clear hb5 HS4
  go_wp2_with
    (at_builtin
     go_must (refine wpList_append_one _ rfl (.tmp 33) (.tmp 39) _ rfl w.heap.size 63 i0 (.agg #[.string ByteArray.empty, .slice none 0 0]) 2 40 Try.underlying22 hi0 hz0 hz1 hz2 rfl (by decide) (.slice (some ⟨w2.heap.size + 1, 0, none⟩) 1 1) 1 _ rfl ((HS5.out.own.alloc _).alloc _) (w5.heap.size + 1) 1 63 #[.string ⟨#[112, 108, 97, 99, 101]⟩, .slice (some ⟨w5.heap.size, 0, none⟩) 3 3] rfl (Bk.new2 _ _ _ _) rfl ?c1 2 rfl ?c2 ?c3 ?c4 ?_)
     case c1 => simp [Value.oneCell']
     case c2 => unfold maxLen; omega
     case c3 => omega
     case c4 => (have := HS5.out.bl.size; simp; omega)
     intro g1 c1 v1 hown hg hat
     have HT1 : Hid (KSt w v1 (.slice (some ⟨g1, 0, none⟩) 2 c1) 2 [⟨k4n0, w2.heap.size, k4f0⟩, ⟨k4n1, w5.heap.size, k4f1⟩]) := Lib.hid (HS5.out.push ⟨k4n1, w5.heap.size, k4f1⟩ rfl hown hg)
     clear hown hg hat HS5)
  go_wp2_with fail
  refine (HF.out ⟨#[118, 120]⟩ 22 (-2097152) _).mono ?_
  rintro e w6 ⟨rfl, hb6⟩
  have HS6 := Lib.hid (HT1.out.below hb6)
  clear hb6 HT1
  go_wp2_with fail
  refine (HF.out ⟨#[118, 121]⟩ 22 (-2097152) _).mono ?_
  rintro e w7 ⟨rfl, hb7⟩
  have HS7 := Lib.hid (HS6.out.below hb7)
  clear hb7 HS6
  go_wp2_with fail
  refine (HF.out ⟨#[115, 112, 105, 110]⟩ 18 (-131072) _).mono ?_
  rintro e w8 ⟨rfl, hb8⟩
  have HS8 := Lib.hid (HS7.out.below hb8)
  clear hb8 HS7
  go_wp2_with fail
  refine (HF.out ⟨#[99, 97, 108, 109]⟩ 12 0 _).mono ?_
  rintro e w9 ⟨rfl, hb9⟩
  have HS9 := Lib.hid (HS8.out.below hb9)
  clear hb9 HS8
  go_wp2_with
    (at_builtin
     go_must (refine wpList_append_one _ rfl (.tmp 41) (.tmp 48) _ rfl w.heap.size 63 i0 (.agg #[.string ByteArray.empty, .slice none 0 0]) 2 40 Try.underlying22 hi0 hz0 hz1 hz2 rfl (by decide) (.slice (some ⟨g1, 0, none⟩) 2 c1) 2 _ rfl ((HS9.out.own.alloc _).alloc _) (w9.heap.size + 1) 1 63 #[.string ⟨#[109, 111, 116, 105, 111, 110]⟩, .slice (some ⟨w9.heap.size, 0, none⟩) 4 4] rfl (Bk.new2 _ _ _ _) rfl ?c1 3 rfl ?c2 ?c3 ?c4 ?_)
     case c1 => simp [Value.oneCell']
     case c2 => unfold maxLen; omega
     case c3 => omega
     case c4 => (have := HS9.out.bl.size; simp; omega)
     intro g2 c2 v2 hown hg hat
     have HT2 : Hid (KSt w v2 (.slice (some ⟨g2, 0, none⟩) 3 c2) 3 [⟨k4n0, w2.heap.size, k4f0⟩, ⟨k4n1, w5.heap.size, k4f1⟩, ⟨k4n2, w9.heap.size, k4f2⟩]) := Lib.hid (HS9.out.push ⟨k4n2, w9.heap.size, k4f2⟩ rfl hown hg)
     clear hown hg hat HS9)
  go_wp2_with fail
  refine (HF.out ⟨#[119]⟩ 18 4096 _).mono ?_
  rintro e w10 ⟨rfl, hb10⟩
  have HS10 := Lib.hid (HT2.out.below hb10)
  clear hb10 HT2
  go_wp2_with fail
  refine (HF.out ⟨#[104]⟩ 18 4096 _).mono ?_
  rintro e w11 ⟨rfl, hb11⟩
  have HS11 := Lib.hid (HS10.out.below hb11)
  clear hb11 HS10
  go_wp2_with fail
  refine (HF.out ⟨#[109, 97, 115, 115]⟩ 20 0 _).mono ?_
  rintro e w12 ⟨rfl, hb12⟩
  have HS12 := Lib.hid (HS11.out.below hb12)
  clear hb12 HS11
  go_wp2_with fail
  refine (HF.out ⟨#[98, 111, 117, 110, 99, 101]⟩ 17 0 _).mono ?_
  rintro e w13 ⟨rfl, hb13⟩
  have HS13 := Lib.hid (HS12.out.below hb13)
  clear hb13 HS12
  go_wp2_with fail
  refine (HF.out ⟨#[114, 117, 98]⟩ 17 0 _).mono ?_
  rintro e w14 ⟨rfl, hb14⟩
  have HS14 := Lib.hid (HS13.out.below hb14)
  clear hb14 HS13
  go_wp2_with
    (at_builtin
     go_must (refine wpList_append_one _ rfl (.tmp 50) (.tmp 58) _ rfl w.heap.size 63 i0 (.agg #[.string ByteArray.empty, .slice none 0 0]) 2 40 Try.underlying22 hi0 hz0 hz1 hz2 rfl (by decide) (.slice (some ⟨g2, 0, none⟩) 3 c2) 3 _ rfl ((HS14.out.own.alloc _).alloc _) (w14.heap.size + 1) 1 63 #[.string ⟨#[115, 104, 97, 112, 101]⟩, .slice (some ⟨w14.heap.size, 0, none⟩) 5 5] rfl (Bk.new2 _ _ _ _) rfl ?c1 4 rfl ?c2 ?c3 ?c4 ?_)
     case c1 => simp [Value.oneCell']
     case c2 => unfold maxLen; omega
     case c3 => omega
     case c4 => (have := HS14.out.bl.size; simp; omega)
     intro g3 c3 v3 hown hg hat
     have HT3 : Hid (KSt w v3 (.slice (some ⟨g3, 0, none⟩) 4 c3) 4 [⟨k4n0, w2.heap.size, k4f0⟩, ⟨k4n1, w5.heap.size, k4f1⟩, ⟨k4n2, w9.heap.size, k4f2⟩, ⟨k4n3, w14.heap.size, k4f3⟩]) := Lib.hid (HS14.out.push ⟨k4n3, w14.heap.size, k4f3⟩ rfl hown hg)
     clear hown hg hat HS14)
  go_ret
  have hcap : 4 ≤ c3 ∧ c3 ≤ 9223372036854775807 := by
    rcases HT3.out.own.2 with ⟨h', _⟩ | ⟨g', cap', cur, h', _, hg, h1, h2, _, _⟩
    · simp at h'
    · injection h' with _ _ h3
      subst h3
      exact ⟨h1, by unfold maxLen at h2; omega⟩
  refine ⟨_, c3, _, rfl, HT3.out.ks rfl hcap.1 hcap.2 ?_, rfl, HT3.out.bl⟩
  intro x hx
  simp only [List.mem_cons, List.not_mem_nil, or_false] at hx
  rcases hx with rfl | rfl | rfl | rfl
  · show k4f0.length ≤ 8; decide
  · show k4f1.length ≤ 8; decide
  · show k4f2.length ≤ 8; decide
  · show k4f3.length ≤ 8; decide
/-! ### Bv -/
def kf_s : List Fd := [⟨⟨#[120]⟩, 8, (-100)⟩, ⟨⟨#[121]⟩, 8, (-100)⟩]
def kn_s : ByteArray := ⟨#[115, 112, 111, 116]⟩
def kf_i : List Fd := [⟨⟨#[112, 108, 97, 121, 101, 114]⟩, 2, 0⟩, ⟨⟨#[107, 101, 121, 115]⟩, 8, 0⟩, ⟨⟨#[120]⟩, 8, (-128)⟩, ⟨⟨#[121]⟩, 8, (-128)⟩]
def kn_i : ByteArray := ⟨#[105, 110, 112, 117, 116]⟩
def kf_m : List Fd := [⟨⟨#[112, 114, 111, 103]⟩, 2, (-1)⟩]
def kn_m : ByteArray := ⟨#[109, 105, 110, 100]⟩
def kf_p : List Fd := [⟨⟨#[120]⟩, 26, (-33554432)⟩, ⟨⟨#[121]⟩, 26, (-33554432)⟩, ⟨⟨#[97, 110, 103]⟩, 16, 0⟩]
def kn_p : ByteArray := ⟨#[112, 108, 97, 99, 101]⟩
def kf_o : List Fd := [⟨⟨#[118, 120]⟩, 22, (-2097152)⟩, ⟨⟨#[118, 121]⟩, 22, (-2097152)⟩, ⟨⟨#[115, 112, 105, 110]⟩, 18, (-131072)⟩, ⟨⟨#[99, 97, 108, 109]⟩, 12, 0⟩]
def kn_o : ByteArray := ⟨#[109, 111, 116, 105, 111, 110]⟩
def kf_h : List Fd := [⟨⟨#[119]⟩, 18, 4096⟩, ⟨⟨#[104]⟩, 18, 4096⟩, ⟨⟨#[109, 97, 115, 115]⟩, 20, 0⟩, ⟨⟨#[98, 111, 117, 110, 99, 101]⟩, 17, 0⟩, ⟨⟨#[114, 117, 98]⟩, 17, 0⟩]
def kn_h : ByteArray := ⟨#[115, 104, 97, 112, 101]⟩
/-- The kinds of a game. -/
def kindsN (n : Nat) : List (ByteArray × List Fd) := [(kn_s, kf_s)] ++ (if n % 2 = 1 then [(kn_i, kf_i)] else []) ++ (if n / 2 % 2 = 1 then [(kn_m, kf_m)] else []) ++ (if n / 4 % 2 = 1 then [(kn_p, kf_p), (kn_o, kf_o), (kn_h, kf_h)] else [])
def KindsNP (n : Nat) (w : World) (e : Ending) (w' : World) : Prop := ∃ A m c ks, e = .returned (.slice A m c) ∧ KsY w' 0 A m c ks ∧ ks.map Kd.p = kindsN n ∧ Below w.heap.size w w'
theorem KSt.ksy {w wr : World} {A : Option Addr} {m c : Nat} {l : List Bd} (h : KSt w wr (.slice A m c) m l) (hm : m = l.length) (hl : ∀ x ∈ l, x.fds.length ≤ 8) : KsY wr 0 A m c (l.map Bd.kd) := by
  obtain ⟨hc, hc2⟩ := own_cap2 h.own
  refine ⟨RdY.of_own h.own, by rw [List.length_map]; exact hm, hc, hc2, fun k hk => ?_⟩
  obtain ⟨x, hx, rfl⟩ := List.mem_map.1 hk
  have hb := h.bk x hx
  refine ⟨RdY.of_bk hb ?_ (fun j u hu => by have hu' : (fdCs x.fds)[j]? = some u := hu; simpa using hu'), rfl, Nat.le_refl _, ?_⟩
  · show (fdCs x.fds).length = x.fds.length * 3
    generalize x.fds = f
    induction f with
    | nil => rfl
    | cons a f ih => simp only [fdCs, List.flatMap_cons] at ih ⊢; rw [List.length_append, ih]; simp [Fd.cs]; omega
  · have := hl x hx
    show x.fds.length ≤ _
    omega
set_option maxHeartbeats 3200000 in
theorem kinds_0 (w : World) : Calls Try.prog 96 #[.int .i64 0] w (KindsNP 0 w) := by
  obtain ⟨i0, hi0, hz0, hz1, hz2⟩ := info_parts T.info63
  have HF := Lib.hid fieldMk_any
  have t1 : (bits BinOp.and IntKind.i64 0 1 == 1) = false := by decide +kernel
  have t2 : (bits BinOp.and IntKind.i64 0 2 == 2) = false := by decide +kernel
  have t3 : (bits BinOp.and IntKind.i64 0 4 == 4) = false := by decide +kernel
  go_enter Try.func96, Try.ntmps96
  go_wp2_with fail
  refine (HF.out ⟨#[120]⟩ 8 (-100) _).mono ?_
  rintro e w1 ⟨rfl, hb1⟩
  have HB1 := Lib.hid hb1
  clear hb1
  go_wp2_with fail
  refine (HF.out ⟨#[121]⟩ 8 (-100) _).mono ?_
  rintro e w2 ⟨rfl, hb2⟩
  have HB2 := Lib.hid (HB1.out.trans (hb2.mono HB1.out.size))
  clear hb2 HB1
  have HS : Hid (KSt w ((w2.alloc (.cells #[.string ⟨#[120]⟩, .int .i64 8, .int .i64 (-100), .string ⟨#[121]⟩, .int .i64 8, .int .i64 (-100)] 66)).alloc (.cells #[.string ⟨#[115, 112, 111, 116]⟩, .slice (some ⟨w2.heap.size, 0, none⟩) 2 2] 63)) (.slice (some ⟨w2.heap.size + 1, 0, none⟩) 1 1) 1 [⟨kn_s, w2.heap.size, kf_s⟩]) := Lib.hid (KSt.start HB2.out ⟨kn_s, w2.heap.size, kf_s⟩ rfl)
  clear HB2
  go_wp2_with fail
  go_ret
  refine ⟨_, _, _, _, rfl, HS.out.ksy rfl ?_, rfl, HS.out.bl⟩
  intro x hx
  simp only [List.mem_cons, List.not_mem_nil, or_false] at hx
  subst hx
  show kf_s.length ≤ 8; decide
set_option maxHeartbeats 3200000 in
theorem kinds_1 (w : World) : Calls Try.prog 96 #[.int .i64 1] w (KindsNP 1 w) := by
  obtain ⟨i0, hi0, hz0, hz1, hz2⟩ := info_parts T.info63
  have HF := Lib.hid fieldMk_any
  have t1 : (bits BinOp.and IntKind.i64 1 1 == 1) = true := by decide +kernel
  have t2 : (bits BinOp.and IntKind.i64 1 2 == 2) = false := by decide +kernel
  have t3 : (bits BinOp.and IntKind.i64 1 4 == 4) = false := by decide +kernel
  go_enter Try.func96, Try.ntmps96
  go_wp2_with fail
  refine (HF.out ⟨#[120]⟩ 8 (-100) _).mono ?_
  rintro e w1 ⟨rfl, hb1⟩
  have HB1 := Lib.hid hb1
  clear hb1
  go_wp2_with fail
  refine (HF.out ⟨#[121]⟩ 8 (-100) _).mono ?_
  rintro e w2 ⟨rfl, hb2⟩
  have HB2 := Lib.hid (HB1.out.trans (hb2.mono HB1.out.size))
  clear hb2 HB1
  have HS : Hid (KSt w ((w2.alloc (.cells #[.string ⟨#[120]⟩, .int .i64 8, .int .i64 (-100), .string ⟨#[121]⟩, .int .i64 8, .int .i64 (-100)] 66)).alloc (.cells #[.string ⟨#[115, 112, 111, 116]⟩, .slice (some ⟨w2.heap.size, 0, none⟩) 2 2] 63)) (.slice (some ⟨w2.heap.size + 1, 0, none⟩) 1 1) 1 [⟨kn_s, w2.heap.size, kf_s⟩]) := Lib.hid (KSt.start HB2.out ⟨kn_s, w2.heap.size, kf_s⟩ rfl)
  clear HB2
  go_wp2_with fail
  refine (HF.out ⟨#[112, 108, 97, 121, 101, 114]⟩ 2 0 _).mono ?_
  rintro e w3 ⟨rfl, hb3⟩
  have HS3 := Lib.hid (HS.out.below hb3)
  clear hb3 HS
  go_wp2_with fail
  refine (HF.out ⟨#[107, 101, 121, 115]⟩ 8 0 _).mono ?_
  rintro e w4 ⟨rfl, hb4⟩
  have HS4 := Lib.hid (HS3.out.below hb4)
  clear hb4 HS3
  go_wp2_with fail
  refine (HF.out ⟨#[120]⟩ 8 (-128) _).mono ?_
  rintro e w5 ⟨rfl, hb5⟩
  have HS5 := Lib.hid (HS4.out.below hb5)
  clear hb5 HS4
  go_wp2_with fail
  refine (HF.out ⟨#[121]⟩ 8 (-128) _).mono ?_
  rintro e w6 ⟨rfl, hb6⟩
  have HS6 := Lib.hid (HS5.out.below hb6)
  clear hb6 HS5
  go_wp2_with
    (at_builtin
     go_must (refine wpList_append_one _ rfl (.tmp 12) (.tmp 19) _ rfl w.heap.size 63 i0 (.agg #[.string ByteArray.empty, .slice none 0 0]) 2 40 Try.underlying22 hi0 hz0 hz1 hz2 rfl (by decide) (.slice (some ⟨w2.heap.size + 1, 0, none⟩) 1 1) 1 _ rfl ((HS6.out.own.alloc _).alloc _) (w6.heap.size + 1) 1 63 #[.string ⟨#[105, 110, 112, 117, 116]⟩, .slice (some ⟨w6.heap.size, 0, none⟩) 4 4] rfl (Bk.new2 _ _ _ _) rfl ?c1 2 rfl ?c2 ?c3 ?c4 ?_)
     case c1 => simp [Value.oneCell']
     case c2 => unfold maxLen; omega
     case c3 => omega
     case c4 => (have := HS6.out.bl.size; simp; omega)
     intro g1 c1 v1 hown hg hat
     have HT1 : Hid (KSt w v1 (.slice (some ⟨g1, 0, none⟩) 2 c1) 2 [⟨kn_s, w2.heap.size, kf_s⟩, ⟨kn_i, w6.heap.size, kf_i⟩]) := Lib.hid (HS6.out.push ⟨kn_i, w6.heap.size, kf_i⟩ rfl hown hg)
     clear hown hg hat HS6)
  go_ret
  refine ⟨_, _, _, _, rfl, HT1.out.ksy rfl ?_, rfl, HT1.out.bl⟩
  intro x hx
  simp only [List.mem_cons, List.not_mem_nil, or_false] at hx
  rcases hx with rfl | rfl
  · show kf_s.length ≤ 8; decide
  · show kf_i.length ≤ 8; decide
set_option maxHeartbeats 3200000 in
theorem kinds_2 (w : World) : Calls Try.prog 96 #[.int .i64 2] w (KindsNP 2 w) := by
  obtain ⟨i0, hi0, hz0, hz1, hz2⟩ := info_parts T.info63
  have HF := Lib.hid fieldMk_any
  have t1 : (bits BinOp.and IntKind.i64 2 1 == 1) = false := by decide +kernel
  have t2 : (bits BinOp.and IntKind.i64 2 2 == 2) = true := by decide +kernel
  have t3 : (bits BinOp.and IntKind.i64 2 4 == 4) = false := by decide +kernel
  go_enter Try.func96, Try.ntmps96
  go_wp2_with fail
  refine (HF.out ⟨#[120]⟩ 8 (-100) _).mono ?_
  rintro e w1 ⟨rfl, hb1⟩
  have HB1 := Lib.hid hb1
  clear hb1
  go_wp2_with fail
  refine (HF.out ⟨#[121]⟩ 8 (-100) _).mono ?_
  rintro e w2 ⟨rfl, hb2⟩
  have HB2 := Lib.hid (HB1.out.trans (hb2.mono HB1.out.size))
  clear hb2 HB1
  have HS : Hid (KSt w ((w2.alloc (.cells #[.string ⟨#[120]⟩, .int .i64 8, .int .i64 (-100), .string ⟨#[121]⟩, .int .i64 8, .int .i64 (-100)] 66)).alloc (.cells #[.string ⟨#[115, 112, 111, 116]⟩, .slice (some ⟨w2.heap.size, 0, none⟩) 2 2] 63)) (.slice (some ⟨w2.heap.size + 1, 0, none⟩) 1 1) 1 [⟨kn_s, w2.heap.size, kf_s⟩]) := Lib.hid (KSt.start HB2.out ⟨kn_s, w2.heap.size, kf_s⟩ rfl)
  clear HB2
  go_wp2_with fail
  refine (HF.out ⟨#[112, 114, 111, 103]⟩ 2 (-1) _).mono ?_
  rintro e w3 ⟨rfl, hb3⟩
  have HS3 := Lib.hid (HS.out.below hb3)
  clear hb3 HS
  go_wp2_with
    (at_builtin
     go_must (refine wpList_append_one _ rfl (.tmp 24) (.tmp 28) _ rfl w.heap.size 63 i0 (.agg #[.string ByteArray.empty, .slice none 0 0]) 2 40 Try.underlying22 hi0 hz0 hz1 hz2 rfl (by decide) (.slice (some ⟨w2.heap.size + 1, 0, none⟩) 1 1) 1 _ rfl ((HS3.out.own.alloc _).alloc _) (w3.heap.size + 1) 1 63 #[.string ⟨#[109, 105, 110, 100]⟩, .slice (some ⟨w3.heap.size, 0, none⟩) 1 1] rfl (Bk.new2 _ _ _ _) rfl ?c1 2 rfl ?c2 ?c3 ?c4 ?_)
     case c1 => simp [Value.oneCell']
     case c2 => unfold maxLen; omega
     case c3 => omega
     case c4 => (have := HS3.out.bl.size; simp; omega)
     intro g1 c1 v1 hown hg hat
     have HT1 : Hid (KSt w v1 (.slice (some ⟨g1, 0, none⟩) 2 c1) 2 [⟨kn_s, w2.heap.size, kf_s⟩, ⟨kn_m, w3.heap.size, kf_m⟩]) := Lib.hid (HS3.out.push ⟨kn_m, w3.heap.size, kf_m⟩ rfl hown hg)
     clear hown hg hat HS3)
  go_ret
  refine ⟨_, _, _, _, rfl, HT1.out.ksy rfl ?_, rfl, HT1.out.bl⟩
  intro x hx
  simp only [List.mem_cons, List.not_mem_nil, or_false] at hx
  rcases hx with rfl | rfl
  · show kf_s.length ≤ 8; decide
  · show kf_m.length ≤ 8; decide
set_option maxHeartbeats 3200000 in
theorem kinds_3 (w : World) : Calls Try.prog 96 #[.int .i64 3] w (KindsNP 3 w) := by
  obtain ⟨i0, hi0, hz0, hz1, hz2⟩ := info_parts T.info63
  have HF := Lib.hid fieldMk_any
  have t1 : (bits BinOp.and IntKind.i64 3 1 == 1) = true := by decide +kernel
  have t2 : (bits BinOp.and IntKind.i64 3 2 == 2) = true := by decide +kernel
  have t3 : (bits BinOp.and IntKind.i64 3 4 == 4) = false := by decide +kernel
  go_enter Try.func96, Try.ntmps96
  go_wp2_with fail
  refine (HF.out ⟨#[120]⟩ 8 (-100) _).mono ?_
  rintro e w1 ⟨rfl, hb1⟩
  have HB1 := Lib.hid hb1
  clear hb1
  go_wp2_with fail
  refine (HF.out ⟨#[121]⟩ 8 (-100) _).mono ?_
  rintro e w2 ⟨rfl, hb2⟩
  have HB2 := Lib.hid (HB1.out.trans (hb2.mono HB1.out.size))
  clear hb2 HB1
  have HS : Hid (KSt w ((w2.alloc (.cells #[.string ⟨#[120]⟩, .int .i64 8, .int .i64 (-100), .string ⟨#[121]⟩, .int .i64 8, .int .i64 (-100)] 66)).alloc (.cells #[.string ⟨#[115, 112, 111, 116]⟩, .slice (some ⟨w2.heap.size, 0, none⟩) 2 2] 63)) (.slice (some ⟨w2.heap.size + 1, 0, none⟩) 1 1) 1 [⟨kn_s, w2.heap.size, kf_s⟩]) := Lib.hid (KSt.start HB2.out ⟨kn_s, w2.heap.size, kf_s⟩ rfl)
  clear HB2
  go_wp2_with fail
  refine (HF.out ⟨#[112, 108, 97, 121, 101, 114]⟩ 2 0 _).mono ?_
  rintro e w3 ⟨rfl, hb3⟩
  have HS3 := Lib.hid (HS.out.below hb3)
  clear hb3 HS
  go_wp2_with fail
  refine (HF.out ⟨#[107, 101, 121, 115]⟩ 8 0 _).mono ?_
  rintro e w4 ⟨rfl, hb4⟩
  have HS4 := Lib.hid (HS3.out.below hb4)
  clear hb4 HS3
  go_wp2_with fail
  refine (HF.out ⟨#[120]⟩ 8 (-128) _).mono ?_
  rintro e w5 ⟨rfl, hb5⟩
  have HS5 := Lib.hid (HS4.out.below hb5)
  clear hb5 HS4
  go_wp2_with fail
  refine (HF.out ⟨#[121]⟩ 8 (-128) _).mono ?_
  rintro e w6 ⟨rfl, hb6⟩
  have HS6 := Lib.hid (HS5.out.below hb6)
  clear hb6 HS5
  go_wp2_with
    (at_builtin
     go_must (refine wpList_append_one _ rfl (.tmp 12) (.tmp 19) _ rfl w.heap.size 63 i0 (.agg #[.string ByteArray.empty, .slice none 0 0]) 2 40 Try.underlying22 hi0 hz0 hz1 hz2 rfl (by decide) (.slice (some ⟨w2.heap.size + 1, 0, none⟩) 1 1) 1 _ rfl ((HS6.out.own.alloc _).alloc _) (w6.heap.size + 1) 1 63 #[.string ⟨#[105, 110, 112, 117, 116]⟩, .slice (some ⟨w6.heap.size, 0, none⟩) 4 4] rfl (Bk.new2 _ _ _ _) rfl ?c1 2 rfl ?c2 ?c3 ?c4 ?_)
     case c1 => simp [Value.oneCell']
     case c2 => unfold maxLen; omega
     case c3 => omega
     case c4 => (have := HS6.out.bl.size; simp; omega)
     intro g1 c1 v1 hown hg hat
     have HT1 : Hid (KSt w v1 (.slice (some ⟨g1, 0, none⟩) 2 c1) 2 [⟨kn_s, w2.heap.size, kf_s⟩, ⟨kn_i, w6.heap.size, kf_i⟩]) := Lib.hid (HS6.out.push ⟨kn_i, w6.heap.size, kf_i⟩ rfl hown hg)
     clear hown hg hat HS6)
  go_wp2_with fail
  refine (HF.out ⟨#[112, 114, 111, 103]⟩ 2 (-1) _).mono ?_
  rintro e w7 ⟨rfl, hb7⟩
  have HS7 := Lib.hid (HT1.out.below hb7)
  clear hb7 HT1
  go_wp2_with
    (at_builtin
     go_must (refine wpList_append_one _ rfl (.tmp 24) (.tmp 28) _ rfl w.heap.size 63 i0 (.agg #[.string ByteArray.empty, .slice none 0 0]) 2 40 Try.underlying22 hi0 hz0 hz1 hz2 rfl (by decide) (.slice (some ⟨g1, 0, none⟩) 2 c1) 2 _ rfl ((HS7.out.own.alloc _).alloc _) (w7.heap.size + 1) 1 63 #[.string ⟨#[109, 105, 110, 100]⟩, .slice (some ⟨w7.heap.size, 0, none⟩) 1 1] rfl (Bk.new2 _ _ _ _) rfl ?c1 3 rfl ?c2 ?c3 ?c4 ?_)
     case c1 => simp [Value.oneCell']
     case c2 => unfold maxLen; omega
     case c3 => omega
     case c4 => (have := HS7.out.bl.size; simp; omega)
     intro g2 c2 v2 hown hg hat
     have HT2 : Hid (KSt w v2 (.slice (some ⟨g2, 0, none⟩) 3 c2) 3 [⟨kn_s, w2.heap.size, kf_s⟩, ⟨kn_i, w6.heap.size, kf_i⟩, ⟨kn_m, w7.heap.size, kf_m⟩]) := Lib.hid (HS7.out.push ⟨kn_m, w7.heap.size, kf_m⟩ rfl hown hg)
     clear hown hg hat HS7)
  go_ret
  refine ⟨_, _, _, _, rfl, HT2.out.ksy rfl ?_, rfl, HT2.out.bl⟩
  intro x hx
  simp only [List.mem_cons, List.not_mem_nil, or_false] at hx
  rcases hx with rfl | rfl | rfl
  · show kf_s.length ≤ 8; decide
  · show kf_i.length ≤ 8; decide
  · show kf_m.length ≤ 8; decide
set_option maxHeartbeats 3200000 in
theorem kinds_4 (w : World) : Calls Try.prog 96 #[.int .i64 4] w (KindsNP 4 w) := by
  obtain ⟨i0, hi0, hz0, hz1, hz2⟩ := info_parts T.info63
  have HF := Lib.hid fieldMk_any
  have t1 : (bits BinOp.and IntKind.i64 4 1 == 1) = false := by decide +kernel
  have t2 : (bits BinOp.and IntKind.i64 4 2 == 2) = false := by decide +kernel
  have t3 : (bits BinOp.and IntKind.i64 4 4 == 4) = true := by decide +kernel
  go_enter Try.func96, Try.ntmps96
  go_wp2_with fail
  refine (HF.out ⟨#[120]⟩ 8 (-100) _).mono ?_
  rintro e w1 ⟨rfl, hb1⟩
  have HB1 := Lib.hid hb1
  clear hb1
  go_wp2_with fail
  refine (HF.out ⟨#[121]⟩ 8 (-100) _).mono ?_
  rintro e w2 ⟨rfl, hb2⟩
  have HB2 := Lib.hid (HB1.out.trans (hb2.mono HB1.out.size))
  clear hb2 HB1
  have HS : Hid (KSt w ((w2.alloc (.cells #[.string ⟨#[120]⟩, .int .i64 8, .int .i64 (-100), .string ⟨#[121]⟩, .int .i64 8, .int .i64 (-100)] 66)).alloc (.cells #[.string ⟨#[115, 112, 111, 116]⟩, .slice (some ⟨w2.heap.size, 0, none⟩) 2 2] 63)) (.slice (some ⟨w2.heap.size + 1, 0, none⟩) 1 1) 1 [⟨kn_s, w2.heap.size, kf_s⟩]) := Lib.hid (KSt.start HB2.out ⟨kn_s, w2.heap.size, kf_s⟩ rfl)
  clear HB2
  go_wp2_with fail
  refine (HF.out ⟨#[120]⟩ 26 (-33554432) _).mono ?_
  rintro e w3 ⟨rfl, hb3⟩
  have HS3 := Lib.hid (HS.out.below hb3)
  clear hb3 HS
  go_wp2_with fail
  refine (HF.out ⟨#[121]⟩ 26 (-33554432) _).mono ?_
  rintro e w4 ⟨rfl, hb4⟩
  have HS4 := Lib.hid (HS3.out.below hb4)
  clear hb4 HS3
  go_wp2_with fail
  refine (HF.out ⟨#[97, 110, 103]⟩ 16 0 _).mono ?_
  rintro e w5 ⟨rfl, hb5⟩
  have HS5 := Lib.hid (HS4.out.below hb5)
  clear hb5 HS4
  go_wp2_with
    (at_builtin
     go_must (refine wpList_append_one _ rfl (.tmp 33) (.tmp 39) _ rfl w.heap.size 63 i0 (.agg #[.string ByteArray.empty, .slice none 0 0]) 2 40 Try.underlying22 hi0 hz0 hz1 hz2 rfl (by decide) (.slice (some ⟨w2.heap.size + 1, 0, none⟩) 1 1) 1 _ rfl ((HS5.out.own.alloc _).alloc _) (w5.heap.size + 1) 1 63 #[.string ⟨#[112, 108, 97, 99, 101]⟩, .slice (some ⟨w5.heap.size, 0, none⟩) 3 3] rfl (Bk.new2 _ _ _ _) rfl ?c1 2 rfl ?c2 ?c3 ?c4 ?_)
     case c1 => simp [Value.oneCell']
     case c2 => unfold maxLen; omega
     case c3 => omega
     case c4 => (have := HS5.out.bl.size; simp; omega)
     intro g1 c1 v1 hown hg hat
     have HT1 : Hid (KSt w v1 (.slice (some ⟨g1, 0, none⟩) 2 c1) 2 [⟨kn_s, w2.heap.size, kf_s⟩, ⟨kn_p, w5.heap.size, kf_p⟩]) := Lib.hid (HS5.out.push ⟨kn_p, w5.heap.size, kf_p⟩ rfl hown hg)
     clear hown hg hat HS5)
  go_wp2_with fail
  refine (HF.out ⟨#[118, 120]⟩ 22 (-2097152) _).mono ?_
  rintro e w6 ⟨rfl, hb6⟩
  have HS6 := Lib.hid (HT1.out.below hb6)
  clear hb6 HT1
  go_wp2_with fail
  refine (HF.out ⟨#[118, 121]⟩ 22 (-2097152) _).mono ?_
  rintro e w7 ⟨rfl, hb7⟩
  have HS7 := Lib.hid (HS6.out.below hb7)
  clear hb7 HS6
  go_wp2_with fail
  refine (HF.out ⟨#[115, 112, 105, 110]⟩ 18 (-131072) _).mono ?_
  rintro e w8 ⟨rfl, hb8⟩
  have HS8 := Lib.hid (HS7.out.below hb8)
  clear hb8 HS7
  go_wp2_with fail
  refine (HF.out ⟨#[99, 97, 108, 109]⟩ 12 0 _).mono ?_
  rintro e w9 ⟨rfl, hb9⟩
  have HS9 := Lib.hid (HS8.out.below hb9)
  clear hb9 HS8
  go_wp2_with
    (at_builtin
     go_must (refine wpList_append_one _ rfl (.tmp 41) (.tmp 48) _ rfl w.heap.size 63 i0 (.agg #[.string ByteArray.empty, .slice none 0 0]) 2 40 Try.underlying22 hi0 hz0 hz1 hz2 rfl (by decide) (.slice (some ⟨g1, 0, none⟩) 2 c1) 2 _ rfl ((HS9.out.own.alloc _).alloc _) (w9.heap.size + 1) 1 63 #[.string ⟨#[109, 111, 116, 105, 111, 110]⟩, .slice (some ⟨w9.heap.size, 0, none⟩) 4 4] rfl (Bk.new2 _ _ _ _) rfl ?c1 3 rfl ?c2 ?c3 ?c4 ?_)
     case c1 => simp [Value.oneCell']
     case c2 => unfold maxLen; omega
     case c3 => omega
     case c4 => (have := HS9.out.bl.size; simp; omega)
     intro g2 c2 v2 hown hg hat
     have HT2 : Hid (KSt w v2 (.slice (some ⟨g2, 0, none⟩) 3 c2) 3 [⟨kn_s, w2.heap.size, kf_s⟩, ⟨kn_p, w5.heap.size, kf_p⟩, ⟨kn_o, w9.heap.size, kf_o⟩]) := Lib.hid (HS9.out.push ⟨kn_o, w9.heap.size, kf_o⟩ rfl hown hg)
     clear hown hg hat HS9)
  go_wp2_with fail
  refine (HF.out ⟨#[119]⟩ 18 4096 _).mono ?_
  rintro e w10 ⟨rfl, hb10⟩
  have HS10 := Lib.hid (HT2.out.below hb10)
  clear hb10 HT2
  go_wp2_with fail
  refine (HF.out ⟨#[104]⟩ 18 4096 _).mono ?_
  rintro e w11 ⟨rfl, hb11⟩
  have HS11 := Lib.hid (HS10.out.below hb11)
  clear hb11 HS10
  go_wp2_with fail
  refine (HF.out ⟨#[109, 97, 115, 115]⟩ 20 0 _).mono ?_
  rintro e w12 ⟨rfl, hb12⟩
  have HS12 := Lib.hid (HS11.out.below hb12)
  clear hb12 HS11
  go_wp2_with fail
  refine (HF.out ⟨#[98, 111, 117, 110, 99, 101]⟩ 17 0 _).mono ?_
  rintro e w13 ⟨rfl, hb13⟩
  have HS13 := Lib.hid (HS12.out.below hb13)
  clear hb13 HS12
  go_wp2_with fail
  refine (HF.out ⟨#[114, 117, 98]⟩ 17 0 _).mono ?_
  rintro e w14 ⟨rfl, hb14⟩
  have HS14 := Lib.hid (HS13.out.below hb14)
  clear hb14 HS13
  go_wp2_with
    (at_builtin
     go_must (refine wpList_append_one _ rfl (.tmp 50) (.tmp 58) _ rfl w.heap.size 63 i0 (.agg #[.string ByteArray.empty, .slice none 0 0]) 2 40 Try.underlying22 hi0 hz0 hz1 hz2 rfl (by decide) (.slice (some ⟨g2, 0, none⟩) 3 c2) 3 _ rfl ((HS14.out.own.alloc _).alloc _) (w14.heap.size + 1) 1 63 #[.string ⟨#[115, 104, 97, 112, 101]⟩, .slice (some ⟨w14.heap.size, 0, none⟩) 5 5] rfl (Bk.new2 _ _ _ _) rfl ?c1 4 rfl ?c2 ?c3 ?c4 ?_)
     case c1 => simp [Value.oneCell']
     case c2 => unfold maxLen; omega
     case c3 => omega
     case c4 => (have := HS14.out.bl.size; simp; omega)
     intro g3 c3 v3 hown hg hat
     have HT3 : Hid (KSt w v3 (.slice (some ⟨g3, 0, none⟩) 4 c3) 4 [⟨kn_s, w2.heap.size, kf_s⟩, ⟨kn_p, w5.heap.size, kf_p⟩, ⟨kn_o, w9.heap.size, kf_o⟩, ⟨kn_h, w14.heap.size, kf_h⟩]) := Lib.hid (HS14.out.push ⟨kn_h, w14.heap.size, kf_h⟩ rfl hown hg)
     clear hown hg hat HS14)
  go_ret
  refine ⟨_, _, _, _, rfl, HT3.out.ksy rfl ?_, rfl, HT3.out.bl⟩
  intro x hx
  simp only [List.mem_cons, List.not_mem_nil, or_false] at hx
  rcases hx with rfl | rfl | rfl | rfl
  · show kf_s.length ≤ 8; decide
  · show kf_p.length ≤ 8; decide
  · show kf_o.length ≤ 8; decide
  · show kf_h.length ≤ 8; decide
set_option maxHeartbeats 3200000 in
theorem kinds_5 (w : World) : Calls Try.prog 96 #[.int .i64 5] w (KindsNP 5 w) := by
  obtain ⟨i0, hi0, hz0, hz1, hz2⟩ := info_parts T.info63
  have HF := Lib.hid fieldMk_any
  have t1 : (bits BinOp.and IntKind.i64 5 1 == 1) = true := by decide +kernel
  have t2 : (bits BinOp.and IntKind.i64 5 2 == 2) = false := by decide +kernel
  have t3 : (bits BinOp.and IntKind.i64 5 4 == 4) = true := by decide +kernel
  go_enter Try.func96, Try.ntmps96
  go_wp2_with fail
  refine (HF.out ⟨#[120]⟩ 8 (-100) _).mono ?_
  rintro e w1 ⟨rfl, hb1⟩
  have HB1 := Lib.hid hb1
  clear hb1
  go_wp2_with fail
  refine (HF.out ⟨#[121]⟩ 8 (-100) _).mono ?_
  rintro e w2 ⟨rfl, hb2⟩
  have HB2 := Lib.hid (HB1.out.trans (hb2.mono HB1.out.size))
  clear hb2 HB1
  have HS : Hid (KSt w ((w2.alloc (.cells #[.string ⟨#[120]⟩, .int .i64 8, .int .i64 (-100), .string ⟨#[121]⟩, .int .i64 8, .int .i64 (-100)] 66)).alloc (.cells #[.string ⟨#[115, 112, 111, 116]⟩, .slice (some ⟨w2.heap.size, 0, none⟩) 2 2] 63)) (.slice (some ⟨w2.heap.size + 1, 0, none⟩) 1 1) 1 [⟨kn_s, w2.heap.size, kf_s⟩]) := Lib.hid (KSt.start HB2.out ⟨kn_s, w2.heap.size, kf_s⟩ rfl)
  clear HB2
  go_wp2_with fail
  refine (HF.out ⟨#[112, 108, 97, 121, 101, 114]⟩ 2 0 _).mono ?_
  rintro e w3 ⟨rfl, hb3⟩
  have HS3 := Lib.hid (HS.out.below hb3)
  clear hb3 HS
  go_wp2_with fail
  refine (HF.out ⟨#[107, 101, 121, 115]⟩ 8 0 _).mono ?_
  rintro e w4 ⟨rfl, hb4⟩
  have HS4 := Lib.hid (HS3.out.below hb4)
  clear hb4 HS3
  go_wp2_with fail
  refine (HF.out ⟨#[120]⟩ 8 (-128) _).mono ?_
  rintro e w5 ⟨rfl, hb5⟩
  have HS5 := Lib.hid (HS4.out.below hb5)
  clear hb5 HS4
  go_wp2_with fail
  refine (HF.out ⟨#[121]⟩ 8 (-128) _).mono ?_
  rintro e w6 ⟨rfl, hb6⟩
  have HS6 := Lib.hid (HS5.out.below hb6)
  clear hb6 HS5
  go_wp2_with
    (at_builtin
     go_must (refine wpList_append_one _ rfl (.tmp 12) (.tmp 19) _ rfl w.heap.size 63 i0 (.agg #[.string ByteArray.empty, .slice none 0 0]) 2 40 Try.underlying22 hi0 hz0 hz1 hz2 rfl (by decide) (.slice (some ⟨w2.heap.size + 1, 0, none⟩) 1 1) 1 _ rfl ((HS6.out.own.alloc _).alloc _) (w6.heap.size + 1) 1 63 #[.string ⟨#[105, 110, 112, 117, 116]⟩, .slice (some ⟨w6.heap.size, 0, none⟩) 4 4] rfl (Bk.new2 _ _ _ _) rfl ?c1 2 rfl ?c2 ?c3 ?c4 ?_)
     case c1 => simp [Value.oneCell']
     case c2 => unfold maxLen; omega
     case c3 => omega
     case c4 => (have := HS6.out.bl.size; simp; omega)
     intro g1 c1 v1 hown hg hat
     have HT1 : Hid (KSt w v1 (.slice (some ⟨g1, 0, none⟩) 2 c1) 2 [⟨kn_s, w2.heap.size, kf_s⟩, ⟨kn_i, w6.heap.size, kf_i⟩]) := Lib.hid (HS6.out.push ⟨kn_i, w6.heap.size, kf_i⟩ rfl hown hg)
     clear hown hg hat HS6)
  go_wp2_with fail
  refine (HF.out ⟨#[120]⟩ 26 (-33554432) _).mono ?_
  rintro e w7 ⟨rfl, hb7⟩
  have HS7 := Lib.hid (HT1.out.below hb7)
  clear hb7 HT1
  go_wp2_with fail
  refine (HF.out ⟨#[121]⟩ 26 (-33554432) _).mono ?_
  rintro e w8 ⟨rfl, hb8⟩
  have HS8 := Lib.hid (HS7.out.below hb8)
  clear hb8 HS7
  go_wp2_with fail
  refine (HF.out ⟨#[97, 110, 103]⟩ 16 0 _).mono ?_
  rintro e w9 ⟨rfl, hb9⟩
  have HS9 := Lib.hid (HS8.out.below hb9)
  clear hb9 HS8
  go_wp2_with
    (at_builtin
     go_must (refine wpList_append_one _ rfl (.tmp 33) (.tmp 39) _ rfl w.heap.size 63 i0 (.agg #[.string ByteArray.empty, .slice none 0 0]) 2 40 Try.underlying22 hi0 hz0 hz1 hz2 rfl (by decide) (.slice (some ⟨g1, 0, none⟩) 2 c1) 2 _ rfl ((HS9.out.own.alloc _).alloc _) (w9.heap.size + 1) 1 63 #[.string ⟨#[112, 108, 97, 99, 101]⟩, .slice (some ⟨w9.heap.size, 0, none⟩) 3 3] rfl (Bk.new2 _ _ _ _) rfl ?c1 3 rfl ?c2 ?c3 ?c4 ?_)
     case c1 => simp [Value.oneCell']
     case c2 => unfold maxLen; omega
     case c3 => omega
     case c4 => (have := HS9.out.bl.size; simp; omega)
     intro g2 c2 v2 hown hg hat
     have HT2 : Hid (KSt w v2 (.slice (some ⟨g2, 0, none⟩) 3 c2) 3 [⟨kn_s, w2.heap.size, kf_s⟩, ⟨kn_i, w6.heap.size, kf_i⟩, ⟨kn_p, w9.heap.size, kf_p⟩]) := Lib.hid (HS9.out.push ⟨kn_p, w9.heap.size, kf_p⟩ rfl hown hg)
     clear hown hg hat HS9)
  go_wp2_with fail
  refine (HF.out ⟨#[118, 120]⟩ 22 (-2097152) _).mono ?_
  rintro e w10 ⟨rfl, hb10⟩
  have HS10 := Lib.hid (HT2.out.below hb10)
  clear hb10 HT2
  go_wp2_with fail
  refine (HF.out ⟨#[118, 121]⟩ 22 (-2097152) _).mono ?_
  rintro e w11 ⟨rfl, hb11⟩
  have HS11 := Lib.hid (HS10.out.below hb11)
  clear hb11 HS10
  go_wp2_with fail
  refine (HF.out ⟨#[115, 112, 105, 110]⟩ 18 (-131072) _).mono ?_
  rintro e w12 ⟨rfl, hb12⟩
  have HS12 := Lib.hid (HS11.out.below hb12)
  clear hb12 HS11
  go_wp2_with fail
  refine (HF.out ⟨#[99, 97, 108, 109]⟩ 12 0 _).mono ?_
  rintro e w13 ⟨rfl, hb13⟩
  have HS13 := Lib.hid (HS12.out.below hb13)
  clear hb13 HS12
  go_wp2_with
    (at_builtin
     go_must (refine wpList_append_one _ rfl (.tmp 41) (.tmp 48) _ rfl w.heap.size 63 i0 (.agg #[.string ByteArray.empty, .slice none 0 0]) 2 40 Try.underlying22 hi0 hz0 hz1 hz2 rfl (by decide) (.slice (some ⟨g2, 0, none⟩) 3 c2) 3 _ rfl ((HS13.out.own.alloc _).alloc _) (w13.heap.size + 1) 1 63 #[.string ⟨#[109, 111, 116, 105, 111, 110]⟩, .slice (some ⟨w13.heap.size, 0, none⟩) 4 4] rfl (Bk.new2 _ _ _ _) rfl ?c1 4 rfl ?c2 ?c3 ?c4 ?_)
     case c1 => simp [Value.oneCell']
     case c2 => unfold maxLen; omega
     case c3 => omega
     case c4 => (have := HS13.out.bl.size; simp; omega)
     intro g3 c3 v3 hown hg hat
     have HT3 : Hid (KSt w v3 (.slice (some ⟨g3, 0, none⟩) 4 c3) 4 [⟨kn_s, w2.heap.size, kf_s⟩, ⟨kn_i, w6.heap.size, kf_i⟩, ⟨kn_p, w9.heap.size, kf_p⟩, ⟨kn_o, w13.heap.size, kf_o⟩]) := Lib.hid (HS13.out.push ⟨kn_o, w13.heap.size, kf_o⟩ rfl hown hg)
     clear hown hg hat HS13)
  go_wp2_with fail
  refine (HF.out ⟨#[119]⟩ 18 4096 _).mono ?_
  rintro e w14 ⟨rfl, hb14⟩
  have HS14 := Lib.hid (HT3.out.below hb14)
  clear hb14 HT3
  go_wp2_with fail
  refine (HF.out ⟨#[104]⟩ 18 4096 _).mono ?_
  rintro e w15 ⟨rfl, hb15⟩
  have HS15 := Lib.hid (HS14.out.below hb15)
  clear hb15 HS14
  go_wp2_with fail
  refine (HF.out ⟨#[109, 97, 115, 115]⟩ 20 0 _).mono ?_
  rintro e w16 ⟨rfl, hb16⟩
  have HS16 := Lib.hid (HS15.out.below hb16)
  clear hb16 HS15
  go_wp2_with fail
  refine (HF.out ⟨#[98, 111, 117, 110, 99, 101]⟩ 17 0 _).mono ?_
  rintro e w17 ⟨rfl, hb17⟩
  have HS17 := Lib.hid (HS16.out.below hb17)
  clear hb17 HS16
  go_wp2_with fail
  refine (HF.out ⟨#[114, 117, 98]⟩ 17 0 _).mono ?_
  rintro e w18 ⟨rfl, hb18⟩
  have HS18 := Lib.hid (HS17.out.below hb18)
  clear hb18 HS17
  go_wp2_with
    (at_builtin
     go_must (refine wpList_append_one _ rfl (.tmp 50) (.tmp 58) _ rfl w.heap.size 63 i0 (.agg #[.string ByteArray.empty, .slice none 0 0]) 2 40 Try.underlying22 hi0 hz0 hz1 hz2 rfl (by decide) (.slice (some ⟨g3, 0, none⟩) 4 c3) 4 _ rfl ((HS18.out.own.alloc _).alloc _) (w18.heap.size + 1) 1 63 #[.string ⟨#[115, 104, 97, 112, 101]⟩, .slice (some ⟨w18.heap.size, 0, none⟩) 5 5] rfl (Bk.new2 _ _ _ _) rfl ?c1 5 rfl ?c2 ?c3 ?c4 ?_)
     case c1 => simp [Value.oneCell']
     case c2 => unfold maxLen; omega
     case c3 => omega
     case c4 => (have := HS18.out.bl.size; simp; omega)
     intro g4 c4 v4 hown hg hat
     have HT4 : Hid (KSt w v4 (.slice (some ⟨g4, 0, none⟩) 5 c4) 5 [⟨kn_s, w2.heap.size, kf_s⟩, ⟨kn_i, w6.heap.size, kf_i⟩, ⟨kn_p, w9.heap.size, kf_p⟩, ⟨kn_o, w13.heap.size, kf_o⟩, ⟨kn_h, w18.heap.size, kf_h⟩]) := Lib.hid (HS18.out.push ⟨kn_h, w18.heap.size, kf_h⟩ rfl hown hg)
     clear hown hg hat HS18)
  go_ret
  refine ⟨_, _, _, _, rfl, HT4.out.ksy rfl ?_, rfl, HT4.out.bl⟩
  intro x hx
  simp only [List.mem_cons, List.not_mem_nil, or_false] at hx
  rcases hx with rfl | rfl | rfl | rfl | rfl
  · show kf_s.length ≤ 8; decide
  · show kf_i.length ≤ 8; decide
  · show kf_p.length ≤ 8; decide
  · show kf_o.length ≤ 8; decide
  · show kf_h.length ≤ 8; decide
set_option maxHeartbeats 3200000 in
theorem kinds_6 (w : World) : Calls Try.prog 96 #[.int .i64 6] w (KindsNP 6 w) := by
  obtain ⟨i0, hi0, hz0, hz1, hz2⟩ := info_parts T.info63
  have HF := Lib.hid fieldMk_any
  have t1 : (bits BinOp.and IntKind.i64 6 1 == 1) = false := by decide +kernel
  have t2 : (bits BinOp.and IntKind.i64 6 2 == 2) = true := by decide +kernel
  have t3 : (bits BinOp.and IntKind.i64 6 4 == 4) = true := by decide +kernel
  go_enter Try.func96, Try.ntmps96
  go_wp2_with fail
  refine (HF.out ⟨#[120]⟩ 8 (-100) _).mono ?_
  rintro e w1 ⟨rfl, hb1⟩
  have HB1 := Lib.hid hb1
  clear hb1
  go_wp2_with fail
  refine (HF.out ⟨#[121]⟩ 8 (-100) _).mono ?_
  rintro e w2 ⟨rfl, hb2⟩
  have HB2 := Lib.hid (HB1.out.trans (hb2.mono HB1.out.size))
  clear hb2 HB1
  have HS : Hid (KSt w ((w2.alloc (.cells #[.string ⟨#[120]⟩, .int .i64 8, .int .i64 (-100), .string ⟨#[121]⟩, .int .i64 8, .int .i64 (-100)] 66)).alloc (.cells #[.string ⟨#[115, 112, 111, 116]⟩, .slice (some ⟨w2.heap.size, 0, none⟩) 2 2] 63)) (.slice (some ⟨w2.heap.size + 1, 0, none⟩) 1 1) 1 [⟨kn_s, w2.heap.size, kf_s⟩]) := Lib.hid (KSt.start HB2.out ⟨kn_s, w2.heap.size, kf_s⟩ rfl)
  clear HB2
  go_wp2_with fail
  refine (HF.out ⟨#[112, 114, 111, 103]⟩ 2 (-1) _).mono ?_
  rintro e w3 ⟨rfl, hb3⟩
  have HS3 := Lib.hid (HS.out.below hb3)
  clear hb3 HS
  go_wp2_with
    (at_builtin
     go_must (refine wpList_append_one _ rfl (.tmp 24) (.tmp 28) _ rfl w.heap.size 63 i0 (.agg #[.string ByteArray.empty, .slice none 0 0]) 2 40 Try.underlying22 hi0 hz0 hz1 hz2 rfl (by decide) (.slice (some ⟨w2.heap.size + 1, 0, none⟩) 1 1) 1 _ rfl ((HS3.out.own.alloc _).alloc _) (w3.heap.size + 1) 1 63 #[.string ⟨#[109, 105, 110, 100]⟩, .slice (some ⟨w3.heap.size, 0, none⟩) 1 1] rfl (Bk.new2 _ _ _ _) rfl ?c1 2 rfl ?c2 ?c3 ?c4 ?_)
     case c1 => simp [Value.oneCell']
     case c2 => unfold maxLen; omega
     case c3 => omega
     case c4 => (have := HS3.out.bl.size; simp; omega)
     intro g1 c1 v1 hown hg hat
     have HT1 : Hid (KSt w v1 (.slice (some ⟨g1, 0, none⟩) 2 c1) 2 [⟨kn_s, w2.heap.size, kf_s⟩, ⟨kn_m, w3.heap.size, kf_m⟩]) := Lib.hid (HS3.out.push ⟨kn_m, w3.heap.size, kf_m⟩ rfl hown hg)
     clear hown hg hat HS3)
  go_wp2_with fail
  refine (HF.out ⟨#[120]⟩ 26 (-33554432) _).mono ?_
  rintro e w4 ⟨rfl, hb4⟩
  have HS4 := Lib.hid (HT1.out.below hb4)
  clear hb4 HT1
  go_wp2_with fail
  refine (HF.out ⟨#[121]⟩ 26 (-33554432) _).mono ?_
  rintro e w5 ⟨rfl, hb5⟩
  have HS5 := Lib.hid (HS4.out.below hb5)
  clear hb5 HS4
  go_wp2_with fail
  refine (HF.out ⟨#[97, 110, 103]⟩ 16 0 _).mono ?_
  rintro e w6 ⟨rfl, hb6⟩
  have HS6 := Lib.hid (HS5.out.below hb6)
  clear hb6 HS5
  go_wp2_with
    (at_builtin
     go_must (refine wpList_append_one _ rfl (.tmp 33) (.tmp 39) _ rfl w.heap.size 63 i0 (.agg #[.string ByteArray.empty, .slice none 0 0]) 2 40 Try.underlying22 hi0 hz0 hz1 hz2 rfl (by decide) (.slice (some ⟨g1, 0, none⟩) 2 c1) 2 _ rfl ((HS6.out.own.alloc _).alloc _) (w6.heap.size + 1) 1 63 #[.string ⟨#[112, 108, 97, 99, 101]⟩, .slice (some ⟨w6.heap.size, 0, none⟩) 3 3] rfl (Bk.new2 _ _ _ _) rfl ?c1 3 rfl ?c2 ?c3 ?c4 ?_)
     case c1 => simp [Value.oneCell']
     case c2 => unfold maxLen; omega
     case c3 => omega
     case c4 => (have := HS6.out.bl.size; simp; omega)
     intro g2 c2 v2 hown hg hat
     have HT2 : Hid (KSt w v2 (.slice (some ⟨g2, 0, none⟩) 3 c2) 3 [⟨kn_s, w2.heap.size, kf_s⟩, ⟨kn_m, w3.heap.size, kf_m⟩, ⟨kn_p, w6.heap.size, kf_p⟩]) := Lib.hid (HS6.out.push ⟨kn_p, w6.heap.size, kf_p⟩ rfl hown hg)
     clear hown hg hat HS6)
  go_wp2_with fail
  refine (HF.out ⟨#[118, 120]⟩ 22 (-2097152) _).mono ?_
  rintro e w7 ⟨rfl, hb7⟩
  have HS7 := Lib.hid (HT2.out.below hb7)
  clear hb7 HT2
  go_wp2_with fail
  refine (HF.out ⟨#[118, 121]⟩ 22 (-2097152) _).mono ?_
  rintro e w8 ⟨rfl, hb8⟩
  have HS8 := Lib.hid (HS7.out.below hb8)
  clear hb8 HS7
  go_wp2_with fail
  refine (HF.out ⟨#[115, 112, 105, 110]⟩ 18 (-131072) _).mono ?_
  rintro e w9 ⟨rfl, hb9⟩
  have HS9 := Lib.hid (HS8.out.below hb9)
  clear hb9 HS8
  go_wp2_with fail
  refine (HF.out ⟨#[99, 97, 108, 109]⟩ 12 0 _).mono ?_
  rintro e w10 ⟨rfl, hb10⟩
  have HS10 := Lib.hid (HS9.out.below hb10)
  clear hb10 HS9
  go_wp2_with
    (at_builtin
     go_must (refine wpList_append_one _ rfl (.tmp 41) (.tmp 48) _ rfl w.heap.size 63 i0 (.agg #[.string ByteArray.empty, .slice none 0 0]) 2 40 Try.underlying22 hi0 hz0 hz1 hz2 rfl (by decide) (.slice (some ⟨g2, 0, none⟩) 3 c2) 3 _ rfl ((HS10.out.own.alloc _).alloc _) (w10.heap.size + 1) 1 63 #[.string ⟨#[109, 111, 116, 105, 111, 110]⟩, .slice (some ⟨w10.heap.size, 0, none⟩) 4 4] rfl (Bk.new2 _ _ _ _) rfl ?c1 4 rfl ?c2 ?c3 ?c4 ?_)
     case c1 => simp [Value.oneCell']
     case c2 => unfold maxLen; omega
     case c3 => omega
     case c4 => (have := HS10.out.bl.size; simp; omega)
     intro g3 c3 v3 hown hg hat
     have HT3 : Hid (KSt w v3 (.slice (some ⟨g3, 0, none⟩) 4 c3) 4 [⟨kn_s, w2.heap.size, kf_s⟩, ⟨kn_m, w3.heap.size, kf_m⟩, ⟨kn_p, w6.heap.size, kf_p⟩, ⟨kn_o, w10.heap.size, kf_o⟩]) := Lib.hid (HS10.out.push ⟨kn_o, w10.heap.size, kf_o⟩ rfl hown hg)
     clear hown hg hat HS10)
  go_wp2_with fail
  refine (HF.out ⟨#[119]⟩ 18 4096 _).mono ?_
  rintro e w11 ⟨rfl, hb11⟩
  have HS11 := Lib.hid (HT3.out.below hb11)
  clear hb11 HT3
  go_wp2_with fail
  refine (HF.out ⟨#[104]⟩ 18 4096 _).mono ?_
  rintro e w12 ⟨rfl, hb12⟩
  have HS12 := Lib.hid (HS11.out.below hb12)
  clear hb12 HS11
  go_wp2_with fail
  refine (HF.out ⟨#[109, 97, 115, 115]⟩ 20 0 _).mono ?_
  rintro e w13 ⟨rfl, hb13⟩
  have HS13 := Lib.hid (HS12.out.below hb13)
  clear hb13 HS12
  go_wp2_with fail
  refine (HF.out ⟨#[98, 111, 117, 110, 99, 101]⟩ 17 0 _).mono ?_
  rintro e w14 ⟨rfl, hb14⟩
  have HS14 := Lib.hid (HS13.out.below hb14)
  clear hb14 HS13
  go_wp2_with fail
  refine (HF.out ⟨#[114, 117, 98]⟩ 17 0 _).mono ?_
  rintro e w15 ⟨rfl, hb15⟩
  have HS15 := Lib.hid (HS14.out.below hb15)
  clear hb15 HS14
  go_wp2_with
    (at_builtin
     go_must (refine wpList_append_one _ rfl (.tmp 50) (.tmp 58) _ rfl w.heap.size 63 i0 (.agg #[.string ByteArray.empty, .slice none 0 0]) 2 40 Try.underlying22 hi0 hz0 hz1 hz2 rfl (by decide) (.slice (some ⟨g3, 0, none⟩) 4 c3) 4 _ rfl ((HS15.out.own.alloc _).alloc _) (w15.heap.size + 1) 1 63 #[.string ⟨#[115, 104, 97, 112, 101]⟩, .slice (some ⟨w15.heap.size, 0, none⟩) 5 5] rfl (Bk.new2 _ _ _ _) rfl ?c1 5 rfl ?c2 ?c3 ?c4 ?_)
     case c1 => simp [Value.oneCell']
     case c2 => unfold maxLen; omega
     case c3 => omega
     case c4 => (have := HS15.out.bl.size; simp; omega)
     intro g4 c4 v4 hown hg hat
     have HT4 : Hid (KSt w v4 (.slice (some ⟨g4, 0, none⟩) 5 c4) 5 [⟨kn_s, w2.heap.size, kf_s⟩, ⟨kn_m, w3.heap.size, kf_m⟩, ⟨kn_p, w6.heap.size, kf_p⟩, ⟨kn_o, w10.heap.size, kf_o⟩, ⟨kn_h, w15.heap.size, kf_h⟩]) := Lib.hid (HS15.out.push ⟨kn_h, w15.heap.size, kf_h⟩ rfl hown hg)
     clear hown hg hat HS15)
  go_ret
  refine ⟨_, _, _, _, rfl, HT4.out.ksy rfl ?_, rfl, HT4.out.bl⟩
  intro x hx
  simp only [List.mem_cons, List.not_mem_nil, or_false] at hx
  rcases hx with rfl | rfl | rfl | rfl | rfl
  · show kf_s.length ≤ 8; decide
  · show kf_m.length ≤ 8; decide
  · show kf_p.length ≤ 8; decide
  · show kf_o.length ≤ 8; decide
  · show kf_h.length ≤ 8; decide
set_option maxHeartbeats 3200000 in
theorem kinds_7 (w : World) : Calls Try.prog 96 #[.int .i64 7] w (KindsNP 7 w) := by
  obtain ⟨i0, hi0, hz0, hz1, hz2⟩ := info_parts T.info63
  have HF := Lib.hid fieldMk_any
  have t1 : (bits BinOp.and IntKind.i64 7 1 == 1) = true := by decide +kernel
  have t2 : (bits BinOp.and IntKind.i64 7 2 == 2) = true := by decide +kernel
  have t3 : (bits BinOp.and IntKind.i64 7 4 == 4) = true := by decide +kernel
  go_enter Try.func96, Try.ntmps96
  go_wp2_with fail
  refine (HF.out ⟨#[120]⟩ 8 (-100) _).mono ?_
  rintro e w1 ⟨rfl, hb1⟩
  have HB1 := Lib.hid hb1
  clear hb1
  go_wp2_with fail
  refine (HF.out ⟨#[121]⟩ 8 (-100) _).mono ?_
  rintro e w2 ⟨rfl, hb2⟩
  have HB2 := Lib.hid (HB1.out.trans (hb2.mono HB1.out.size))
  clear hb2 HB1
  have HS : Hid (KSt w ((w2.alloc (.cells #[.string ⟨#[120]⟩, .int .i64 8, .int .i64 (-100), .string ⟨#[121]⟩, .int .i64 8, .int .i64 (-100)] 66)).alloc (.cells #[.string ⟨#[115, 112, 111, 116]⟩, .slice (some ⟨w2.heap.size, 0, none⟩) 2 2] 63)) (.slice (some ⟨w2.heap.size + 1, 0, none⟩) 1 1) 1 [⟨kn_s, w2.heap.size, kf_s⟩]) := Lib.hid (KSt.start HB2.out ⟨kn_s, w2.heap.size, kf_s⟩ rfl)
  clear HB2
  go_wp2_with fail
  refine (HF.out ⟨#[112, 108, 97, 121, 101, 114]⟩ 2 0 _).mono ?_
  rintro e w3 ⟨rfl, hb3⟩
  have HS3 := Lib.hid (HS.out.below hb3)
  clear hb3 HS
  go_wp2_with fail
  refine (HF.out ⟨#[107, 101, 121, 115]⟩ 8 0 _).mono ?_
  rintro e w4 ⟨rfl, hb4⟩
  have HS4 := Lib.hid (HS3.out.below hb4)
  clear hb4 HS3
  go_wp2_with fail
  refine (HF.out ⟨#[120]⟩ 8 (-128) _).mono ?_
  rintro e w5 ⟨rfl, hb5⟩
  have HS5 := Lib.hid (HS4.out.below hb5)
  clear hb5 HS4
  go_wp2_with fail
  refine (HF.out ⟨#[121]⟩ 8 (-128) _).mono ?_
  rintro e w6 ⟨rfl, hb6⟩
  have HS6 := Lib.hid (HS5.out.below hb6)
  clear hb6 HS5
  go_wp2_with
    (at_builtin
     go_must (refine wpList_append_one _ rfl (.tmp 12) (.tmp 19) _ rfl w.heap.size 63 i0 (.agg #[.string ByteArray.empty, .slice none 0 0]) 2 40 Try.underlying22 hi0 hz0 hz1 hz2 rfl (by decide) (.slice (some ⟨w2.heap.size + 1, 0, none⟩) 1 1) 1 _ rfl ((HS6.out.own.alloc _).alloc _) (w6.heap.size + 1) 1 63 #[.string ⟨#[105, 110, 112, 117, 116]⟩, .slice (some ⟨w6.heap.size, 0, none⟩) 4 4] rfl (Bk.new2 _ _ _ _) rfl ?c1 2 rfl ?c2 ?c3 ?c4 ?_)
     case c1 => simp [Value.oneCell']
     case c2 => unfold maxLen; omega
     case c3 => omega
     case c4 => (have := HS6.out.bl.size; simp; omega)
     intro g1 c1 v1 hown hg hat
     have HT1 : Hid (KSt w v1 (.slice (some ⟨g1, 0, none⟩) 2 c1) 2 [⟨kn_s, w2.heap.size, kf_s⟩, ⟨kn_i, w6.heap.size, kf_i⟩]) := Lib.hid (HS6.out.push ⟨kn_i, w6.heap.size, kf_i⟩ rfl hown hg)
     clear hown hg hat HS6)
  go_wp2_with fail
  refine (HF.out ⟨#[112, 114, 111, 103]⟩ 2 (-1) _).mono ?_
  rintro e w7 ⟨rfl, hb7⟩
  have HS7 := Lib.hid (HT1.out.below hb7)
  clear hb7 HT1
  go_wp2_with
    (at_builtin
     go_must (refine wpList_append_one _ rfl (.tmp 24) (.tmp 28) _ rfl w.heap.size 63 i0 (.agg #[.string ByteArray.empty, .slice none 0 0]) 2 40 Try.underlying22 hi0 hz0 hz1 hz2 rfl (by decide) (.slice (some ⟨g1, 0, none⟩) 2 c1) 2 _ rfl ((HS7.out.own.alloc _).alloc _) (w7.heap.size + 1) 1 63 #[.string ⟨#[109, 105, 110, 100]⟩, .slice (some ⟨w7.heap.size, 0, none⟩) 1 1] rfl (Bk.new2 _ _ _ _) rfl ?c1 3 rfl ?c2 ?c3 ?c4 ?_)
     case c1 => simp [Value.oneCell']
     case c2 => unfold maxLen; omega
     case c3 => omega
     case c4 => (have := HS7.out.bl.size; simp; omega)
     intro g2 c2 v2 hown hg hat
     have HT2 : Hid (KSt w v2 (.slice (some ⟨g2, 0, none⟩) 3 c2) 3 [⟨kn_s, w2.heap.size, kf_s⟩, ⟨kn_i, w6.heap.size, kf_i⟩, ⟨kn_m, w7.heap.size, kf_m⟩]) := Lib.hid (HS7.out.push ⟨kn_m, w7.heap.size, kf_m⟩ rfl hown hg)
     clear hown hg hat HS7)
  go_wp2_with fail
  refine (HF.out ⟨#[120]⟩ 26 (-33554432) _).mono ?_
  rintro e w8 ⟨rfl, hb8⟩
  have HS8 := Lib.hid (HT2.out.below hb8)
  clear hb8 HT2
  go_wp2_with fail
  refine (HF.out ⟨#[121]⟩ 26 (-33554432) _).mono ?_
  rintro e w9 ⟨rfl, hb9⟩
  have HS9 := Lib.hid (HS8.out.below hb9)
  clear hb9 HS8
  go_wp2_with fail
  refine (HF.out ⟨#[97, 110, 103]⟩ 16 0 _).mono ?_
  rintro e w10 ⟨rfl, hb10⟩
  have HS10 := Lib.hid (HS9.out.below hb10)
  clear hb10 HS9
  go_wp2_with
    (at_builtin
     go_must (refine wpList_append_one _ rfl (.tmp 33) (.tmp 39) _ rfl w.heap.size 63 i0 (.agg #[.string ByteArray.empty, .slice none 0 0]) 2 40 Try.underlying22 hi0 hz0 hz1 hz2 rfl (by decide) (.slice (some ⟨g2, 0, none⟩) 3 c2) 3 _ rfl ((HS10.out.own.alloc _).alloc _) (w10.heap.size + 1) 1 63 #[.string ⟨#[112, 108, 97, 99, 101]⟩, .slice (some ⟨w10.heap.size, 0, none⟩) 3 3] rfl (Bk.new2 _ _ _ _) rfl ?c1 4 rfl ?c2 ?c3 ?c4 ?_)
     case c1 => simp [Value.oneCell']
     case c2 => unfold maxLen; omega
     case c3 => omega
     case c4 => (have := HS10.out.bl.size; simp; omega)
     intro g3 c3 v3 hown hg hat
     have HT3 : Hid (KSt w v3 (.slice (some ⟨g3, 0, none⟩) 4 c3) 4 [⟨kn_s, w2.heap.size, kf_s⟩, ⟨kn_i, w6.heap.size, kf_i⟩, ⟨kn_m, w7.heap.size, kf_m⟩, ⟨kn_p, w10.heap.size, kf_p⟩]) := Lib.hid (HS10.out.push ⟨kn_p, w10.heap.size, kf_p⟩ rfl hown hg)
     clear hown hg hat HS10)
  go_wp2_with fail
  refine (HF.out ⟨#[118, 120]⟩ 22 (-2097152) _).mono ?_
  rintro e w11 ⟨rfl, hb11⟩
  have HS11 := Lib.hid (HT3.out.below hb11)
  clear hb11 HT3
  go_wp2_with fail
  refine (HF.out ⟨#[118, 121]⟩ 22 (-2097152) _).mono ?_
  rintro e w12 ⟨rfl, hb12⟩
  have HS12 := Lib.hid (HS11.out.below hb12)
  clear hb12 HS11
  go_wp2_with fail
  refine (HF.out ⟨#[115, 112, 105, 110]⟩ 18 (-131072) _).mono ?_
  rintro e w13 ⟨rfl, hb13⟩
  have HS13 := Lib.hid (HS12.out.below hb13)
  clear hb13 HS12
  go_wp2_with fail
  refine (HF.out ⟨#[99, 97, 108, 109]⟩ 12 0 _).mono ?_
  rintro e w14 ⟨rfl, hb14⟩
  have HS14 := Lib.hid (HS13.out.below hb14)
  clear hb14 HS13
  go_wp2_with
    (at_builtin
     go_must (refine wpList_append_one _ rfl (.tmp 41) (.tmp 48) _ rfl w.heap.size 63 i0 (.agg #[.string ByteArray.empty, .slice none 0 0]) 2 40 Try.underlying22 hi0 hz0 hz1 hz2 rfl (by decide) (.slice (some ⟨g3, 0, none⟩) 4 c3) 4 _ rfl ((HS14.out.own.alloc _).alloc _) (w14.heap.size + 1) 1 63 #[.string ⟨#[109, 111, 116, 105, 111, 110]⟩, .slice (some ⟨w14.heap.size, 0, none⟩) 4 4] rfl (Bk.new2 _ _ _ _) rfl ?c1 5 rfl ?c2 ?c3 ?c4 ?_)
     case c1 => simp [Value.oneCell']
     case c2 => unfold maxLen; omega
     case c3 => omega
     case c4 => (have := HS14.out.bl.size; simp; omega)
     intro g4 c4 v4 hown hg hat
     have HT4 : Hid (KSt w v4 (.slice (some ⟨g4, 0, none⟩) 5 c4) 5 [⟨kn_s, w2.heap.size, kf_s⟩, ⟨kn_i, w6.heap.size, kf_i⟩, ⟨kn_m, w7.heap.size, kf_m⟩, ⟨kn_p, w10.heap.size, kf_p⟩, ⟨kn_o, w14.heap.size, kf_o⟩]) := Lib.hid (HS14.out.push ⟨kn_o, w14.heap.size, kf_o⟩ rfl hown hg)
     clear hown hg hat HS14)
  go_wp2_with fail
  refine (HF.out ⟨#[119]⟩ 18 4096 _).mono ?_
  rintro e w15 ⟨rfl, hb15⟩
  have HS15 := Lib.hid (HT4.out.below hb15)
  clear hb15 HT4
  go_wp2_with fail
  refine (HF.out ⟨#[104]⟩ 18 4096 _).mono ?_
  rintro e w16 ⟨rfl, hb16⟩
  have HS16 := Lib.hid (HS15.out.below hb16)
  clear hb16 HS15
  go_wp2_with fail
  refine (HF.out ⟨#[109, 97, 115, 115]⟩ 20 0 _).mono ?_
  rintro e w17 ⟨rfl, hb17⟩
  have HS17 := Lib.hid (HS16.out.below hb17)
  clear hb17 HS16
  go_wp2_with fail
  refine (HF.out ⟨#[98, 111, 117, 110, 99, 101]⟩ 17 0 _).mono ?_
  rintro e w18 ⟨rfl, hb18⟩
  have HS18 := Lib.hid (HS17.out.below hb18)
  clear hb18 HS17
  go_wp2_with fail
  refine (HF.out ⟨#[114, 117, 98]⟩ 17 0 _).mono ?_
  rintro e w19 ⟨rfl, hb19⟩
  have HS19 := Lib.hid (HS18.out.below hb19)
  clear hb19 HS18
  go_wp2_with
    (at_builtin
     go_must (refine wpList_append_one _ rfl (.tmp 50) (.tmp 58) _ rfl w.heap.size 63 i0 (.agg #[.string ByteArray.empty, .slice none 0 0]) 2 40 Try.underlying22 hi0 hz0 hz1 hz2 rfl (by decide) (.slice (some ⟨g4, 0, none⟩) 5 c4) 5 _ rfl ((HS19.out.own.alloc _).alloc _) (w19.heap.size + 1) 1 63 #[.string ⟨#[115, 104, 97, 112, 101]⟩, .slice (some ⟨w19.heap.size, 0, none⟩) 5 5] rfl (Bk.new2 _ _ _ _) rfl ?c1 6 rfl ?c2 ?c3 ?c4 ?_)
     case c1 => simp [Value.oneCell']
     case c2 => unfold maxLen; omega
     case c3 => omega
     case c4 => (have := HS19.out.bl.size; simp; omega)
     intro g5 c5 v5 hown hg hat
     have HT5 : Hid (KSt w v5 (.slice (some ⟨g5, 0, none⟩) 6 c5) 6 [⟨kn_s, w2.heap.size, kf_s⟩, ⟨kn_i, w6.heap.size, kf_i⟩, ⟨kn_m, w7.heap.size, kf_m⟩, ⟨kn_p, w10.heap.size, kf_p⟩, ⟨kn_o, w14.heap.size, kf_o⟩, ⟨kn_h, w19.heap.size, kf_h⟩]) := Lib.hid (HS19.out.push ⟨kn_h, w19.heap.size, kf_h⟩ rfl hown hg)
     clear hown hg hat HS19)
  go_ret
  refine ⟨_, _, _, _, rfl, HT5.out.ksy rfl ?_, rfl, HT5.out.bl⟩
  intro x hx
  simp only [List.mem_cons, List.not_mem_nil, or_false] at hx
  rcases hx with rfl | rfl | rfl | rfl | rfl | rfl
  · show kf_s.length ≤ 8; decide
  · show kf_i.length ≤ 8; decide
  · show kf_m.length ≤ 8; decide
  · show kf_p.length ≤ 8; decide
  · show kf_o.length ≤ 8; decide
  · show kf_h.length ≤ 8; decide
theorem kindsN_any (n : Nat) (hn : n < 8) (w : World) : Calls Try.prog 96 #[.int .i64 n] w (KindsNP n w) := by
  rcases (by omega : n = 0 ∨ n = 1 ∨ n = 2 ∨ n = 3 ∨ n = 4 ∨ n = 5 ∨ n = 6 ∨ n = 7) with rfl | rfl | rfl | rfl | rfl | rfl | rfl | rfl
  · exact kinds_0 w
  · exact kinds_1 w
  · exact kinds_2 w
  · exact kinds_3 w
  · exact kinds_4 w
  · exact kinds_5 w
  · exact kinds_6 w
  · exact kinds_7 w
/-! ### Bw -/
theorem kindsN_len (n : Nat) (hn : n < 8) : 1 ≤ (kindsN n).length ∧ (kindsN n).length ≤ 6 := by
  rcases (by omega : n = 0 ∨ n = 1 ∨ n = 2 ∨ n = 3 ∨ n = 4 ∨ n = 5 ∨ n = 6 ∨ n = 7) with rfl | rfl | rfl | rfl | rfl | rfl | rfl | rfl <;> decide +kernel
/-- Each kind's fields are few and good; 'place' has at least two, whose ranges hold what is drawn anew. -/
theorem kindsN_one (n : Nat) (hn : n < 8) : ∀ k ∈ kindsN n, oneF k.1 k.2 = 0 := by
  rcases (by omega : n = 0 ∨ n = 1 ∨ n = 2 ∨ n = 3 ∨ n = 4 ∨ n = 5 ∨ n = 6 ∨ n = 7) with rfl | rfl | rfl | rfl | rfl | rfl | rfl | rfl <;> decide +kernel
theorem kindsN_place (n : Nat) (hn : n < 8) : ∀ k ∈ kindsN n, k.1 = kn_p → k.2 = kf_p := by
  rcases (by omega : n = 0 ∨ n = 1 ∨ n = 2 ∨ n = 3 ∨ n = 4 ∨ n = 5 ∨ n = 6 ∨ n = 7) with rfl | rfl | rfl | rfl | rfl | rfl | rfl | rfl <;> simp [kindsN, kn_s, kn_i, kn_m, kn_p, kn_o, kn_h]
theorem scripts_any (w : World) : Calls Try.prog 133 #[] w fun e w' => ∃ (g : Nat) (l : List ByteArray), e = .returned (.slice (some ⟨g, 0, none⟩) 4 4) ∧ l.length = 4 ∧ Bk w' g 9 (l.map Value.string).toArray ∧ w.heap.size ≤ g ∧ Below w.heap.size w w' := by
  go_enter Try.func133, Try.ntmps133
  go_wp2_with fail
  go_ret
  refine ⟨_, [_, _, _, _], rfl, rfl, Bk.new w 9 _, Nat.le_refl _, (Below.refl _ w).alloc (Nat.le_refl _) _⟩
/-! ### By -/
/-- Values that were drawn for fields. -/
def InR (fds : List Fd) (vs : List Int) : Prop := vs.length = fds.length ∧ ∀ t f, fds[t]? = some f → f.low ≤ vs.getD t 0 ∧ vs.getD t 0 < f.low + 2 ^ f.bits.toNat
theorem InR.hold {nm : ByteArray} {fds : List Fd} {vs : List Int} (h : InR fds vs) (h1 : oneF nm fds = 0) : holdK (nm, fds) vs = true := hold_of h1 h.1 h.2
theorem InR.place {vs : List Int} (h : InR kf_p vs) {a b : Int} (ha : 0 ≤ a ∧ a < 9) (hb : 0 ≤ b ∧ b < 9) : InR kf_p ((vs.set 0 ((a - 4) * 65536)).set 1 ((b - 4) * 65536)) := by
  obtain ⟨hl, hr⟩ := h
  have hl3 : vs.length = 3 := hl
  match vs, hl3 with
  | [x, y, z], _ =>
    refine ⟨rfl, fun t f hf => ?_⟩
    match t with
    | 0 =>
      have e : f = ⟨⟨#[120]⟩, 26, (-33554432)⟩ := by simpa [kf_p] using hf.symm
      subst e
      show (-33554432 : Int) ≤ (a - 4) * 65536 ∧ (a - 4) * 65536 < -33554432 + 2 ^ (26 : Int).toNat
      have e2 : (2 : Int) ^ (26 : Int).toNat = 67108864 := by decide
      rw [e2]
      omega
    | 1 =>
      have e : f = ⟨⟨#[121]⟩, 26, (-33554432)⟩ := by simpa [kf_p] using hf.symm
      subst e
      show (-33554432 : Int) ≤ (b - 4) * 65536 ∧ (b - 4) * 65536 < -33554432 + 2 ^ (26 : Int).toNat
      have e2 : (2 : Int) ^ (26 : Int).toNat = 67108864 := by decide
      rw [e2]
      omega
    | 2 => exact hr 2 f hf
    | (n + 3) => simp [kf_p] at hf
/-! ### Bz -/
noncomputable def vdLoop : Code := (Try.f54.body.bind (blkN 4)).getD .skip
set_option maxHeartbeats 8000000 in
theorem vdLoop_any {x0 x1 x2 x3 x4 x6 x7 x8 x9 x10 x12 x13 x14 x15 x16 x17 x18 x19 x20 x21 x22 x23 x24 x25 x26 x27 x28 x29 x30 x31 x32 x33 x34 x35 x36 x37 x38 x39 x40 x41 x42 x43 x44 x45 x46 x47 x48 x49 x50 x51 x52 x53 x54 x55 x56 x60 x61 x62 x63 x64 x65 x66 x67 x68 x69 x70 x71 x72 x73 x74 x75 x76 x77 x78 x79 x80 x81 x82 x83 x84 x85 x86 x87 x88 x89 x90 x91 x92 x93 x94 x95 x96 x97 x98 x99 x100 x101 x102 x103 x104 x105 x106 x107 x108 : Value} {Q : Exit → Act → World → Prop} {wI w0 : World} {B base s cA fn fc i : Nat} {fA : Option Addr} {fds : List Fd}
    (hst : StrSt w0 B s) (hB : B ≤ s) (hrd : RdY w0 B 66 3 fA fn (fdCs fds)) (hfl : fn = fds.length) (hfn : fn ≤ fc) (hfc : fc ≤ 9223372036854775807) (hfok : ∀ f ∈ fds, fieldF f = 0) (h8 : fn ≤ 8)
    (hc : Bk w0 cA 166 #[.int .i64 (i : Int), .slice none 0 0]) (hBb : B ≤ base) (hbase : base ≤ w0.heap.size) (hcA : base ≤ cA) (hQ : Fq [s] wI w0) (hI : wI.heap.size ≤ base)
    (hN : ∀ (y13 y60 y61 y62 y63 y64 y65 y66 y67 y68 y69 y70 y71 y72 y73 y74 y75 y76 : Value) (vs : List Int) (VA : Option Addr) (vc : Nat) (w' : World), Hid (InR fds vs ∧ StrSt w' B s ∧ Bk w' cA 166 #[.int .i64 (i : Int), .slice VA fn vc] ∧ w'.ownsRow base 3 1 (.slice VA fn vc) fn (vs.map (Value.int .i64)) ∧ Fq [s] wI w' ∧ Kx B [189, 3, 166] w0 w') → Q .normal ⟨#[x0, x1, x2, x3, x4, .pointer (some ⟨s, 0, none⟩), x6, x7, x8, x9, x10, .pointer (some ⟨cA, 0, none⟩), x12, y13, x14, x15, x16, x17, x18, x19, x20, x21, x22, x23, x24, x25, x26, x27, x28, x29, x30, x31, x32, x33, x34, x35, x36, x37, x38, x39, x40, x41, x42, x43, x44, x45, x46, x47, x48, x49, x50, x51, x52, x53, x54, x55, x56, .slice fA fn fc, .int .i64 (fn : Int), .int .i64 (fn : Int), y60, y61, y62, y63, y64, y65, y66, y67, y68, y69, y70, y71, y72, y73, y74, y75, y76, x77, x78, x79, x80, x81, x82, x83, x84, x85, x86, x87, x88, x89, x90, x91, x92, x93, x94, x95, x96, x97, x98, x99, x100, x101, x102, x103, x104, x105, x106, x107, x108], []⟩ w') :
    Code.wp Try.prog vdLoop Q ⟨#[x0, x1, x2, x3, x4, .pointer (some ⟨s, 0, none⟩), x6, x7, x8, x9, x10, .pointer (some ⟨cA, 0, none⟩), x12, x13, x14, x15, x16, x17, x18, x19, x20, x21, x22, x23, x24, x25, x26, x27, x28, x29, x30, x31, x32, x33, x34, x35, x36, x37, x38, x39, x40, x41, x42, x43, x44, x45, x46, x47, x48, x49, x50, x51, x52, x53, x54, x55, x56, .slice fA fn fc, .int .i64 (fn : Int), .int .i64 0, x60, x61, x62, x63, x64, x65, x66, x67, x68, x69, x70, x71, x72, x73, x74, x75, x76, x77, x78, x79, x80, x81, x82, x83, x84, x85, x86, x87, x88, x89, x90, x91, x92, x93, x94, x95, x96, x97, x98, x99, x100, x101, x102, x103, x104, x105, x106, x107, x108], []⟩ w0 := by
  conv => arg 2; whnf
  have HRD := Lib.hid hrd
  have HST := Lib.hid hst
  have HC := Lib.hid hc
  have HOK := Lib.hid hfok
  have HFL := Lib.hid hfl
  clear hrd hst hc hfok hfl
  go_wp2_with fail
  go_loopw [59] (fun jv wx => ∃ (j vc : Nat) (VA : Option Addr) (vs : List Int), j ≤ fn ∧ jv = .int .i64 j ∧ Hid (StrSt wx B s ∧ Bk wx cA 166 #[.int .i64 (i : Int), .slice VA j vc] ∧ wx.ownsRow base 3 1 (.slice VA j vc) j (vs.map (Value.int .i64)) ∧ vs.length = j ∧ (∀ t f, t < j → fds[t]? = some f → f.low ≤ vs.getD t 0 ∧ vs.getD t 0 < f.low + 2 ^ f.bits.toNat) ∧ Fq [s] wI wx ∧ Kx B [189, 3, 166] w0 wx)) (fun jv _ => fn - (intOf jv).toNat)
  case atStart => exact ⟨0, 0, none, [], Nat.zero_le _, rfl, Lib.hid ⟨HST.out, HC.out, World.ownsRow_nil _ _ _ _, rfl, (fun t f ht => by omega), hQ, Kx.refl⟩⟩
  case round =>
    obtain ⟨j, vc, VA, vs, hj, rfl, HV⟩ := hrel
    by_cases hjl : j < fn
    · obtain ⟨f, hf⟩ : ∃ f, fds[j]? = some f := ⟨_, List.getElem?_eq_getElem (by have := HFL.out; omega)⟩
      have HF := Lib.hid hf
      have hjz : (j : Int) < fn := by omega
      have HRr := Lib.hid ((HRD.out.keep HV.out.2.2.2.2.2.2 (by decide)).rd)
      have HFK := Lib.hid (field_ok (HOK.out f (List.mem_of_getElem? hf)))
      have HSZ : Hid (base ≤ wr.heap.size) := Lib.hid (Nat.le_trans hbase HV.out.2.2.2.2.2.2.size)
      clear hf
      go_upto_if 60 with fail
      first
        | (go_step; refine vdOne_any HV.out.1 hB HRr.out hfn hfc HF.out hjl HFK.out (by omega) HV.out.2.1 HV.out.2.2.1 hBb HSZ.out hcA HV.out.2.2.2.2.2.1 hI ?_)
        | (go_step; go_step; refine vdOne_any HV.out.1 hB HRr.out hfn hfc HF.out hjl HFK.out (by omega) HV.out.2.1 HV.out.2.2.1 hBb HSZ.out hcA HV.out.2.2.2.2.2.1 hI ?_)
        | (go_step; go_step; go_step; refine vdOne_any HV.out.1 hB HRr.out hfn hfc HF.out hjl HFK.out (by omega) HV.out.2.1 HV.out.2.2.1 hBb HSZ.out hcA HV.out.2.2.2.2.2.1 hI ?_)
        | (go_step; go_step; go_step; go_step; refine vdOne_any HV.out.1 hB HRr.out hfn hfc HF.out hjl HFK.out (by omega) HV.out.2.1 HV.out.2.2.1 hBb HSZ.out hcA HV.out.2.2.2.2.2.1 hI ?_)
        | (go_step; go_step; go_step; go_step; go_step; refine vdOne_any HV.out.1 hB HRr.out hfn hfc HF.out hjl HFK.out (by omega) HV.out.2.1 HV.out.2.2.1 hBb HSZ.out hcA HV.out.2.2.2.2.2.1 hI ?_)
      intros
      rename_i v g7 c7 w7 H7
      have HVN : Hid (StrSt w7 B s ∧ Bk w7 cA 166 #[.int .i64 (i : Int), .slice (some ⟨g7, 0, none⟩) (j + 1) c7] ∧ w7.ownsRow base 3 1 (.slice (some ⟨g7, 0, none⟩) (j + 1) c7) (j + 1) ((vs ++ [f.low + v]).map (Value.int .i64)) ∧ (vs ++ [f.low + v]).length = j + 1 ∧ (∀ t g, t < j + 1 → fds[t]? = some g → g.low ≤ (vs ++ [f.low + v]).getD t 0 ∧ (vs ++ [f.low + v]).getD t 0 < g.low + 2 ^ g.bits.toNat) ∧ Fq [s] wI w7 ∧ Kx B [189, 3, 166] w0 w7) := Lib.hid
        ⟨H7.out.2.2.1, H7.out.2.2.2.1, H7.out.2.2.2.2.1, by rw [List.length_append, HV.out.2.2.2.1]; rfl, mk_range (bt := f.bits.toNat) HV.out.2.2.2.1 HV.out.2.2.2.2.1 HF.out (by have := HFK.out; omega) rfl rfl H7.out.1 H7.out.2.1, H7.out.2.2.2.2.2.1, HV.out.2.2.2.2.2.2.trans H7.out.2.2.2.2.2.2⟩
      clear HV H7 HRr HFK HF HSZ
      go_wp2_with fail
      go_roundw
      case rel => exact ⟨j + 1, c7, some ⟨g7, 0, none⟩, vs ++ [f.low + v], by omega, by go_num, HVN⟩
      case measure => simp [intOf]; omega
    · obtain rfl : fn = j := by omega
      have HR : Hid (InR fds vs ∧ StrSt wr B s ∧ Bk wr cA 166 #[.int .i64 (i : Int), .slice VA fn vc] ∧ wr.ownsRow base 3 1 (.slice VA fn vc) fn (vs.map (Value.int .i64)) ∧ Fq [s] wI wr ∧ Kx B [189, 3, 166] w0 wr) := Lib.hid ⟨⟨by rw [HV.out.2.2.2.1]; exact HFL.out, fun t f hf => HV.out.2.2.2.2.1 t f (by have h1 := (List.getElem?_eq_some_iff.1 hf).1; have h2 := HFL.out; omega) hf⟩, HV.out.1, HV.out.2.1, HV.out.2.2.1, HV.out.2.2.2.2.2⟩
      clear HV
      go_wp2_with fail
      (try simp only [Exit.inBlock, Exit.then])
      first
        | exact HR
        | exact hN _ _ _ _ _ _ _ _ _ _ _ _ _ _ _ _ _ _ vs VA vc _ HR
/-! ### Ca -/
noncomputable def vdR20 : Code := (Try.f54.body.bind (rgnN 20)).getD .skip
theorem own_setB {w : World} {base n c g j : Nat} {e : TypeId} {xs : List Value} (h : w.ownsRow base e 1 (.slice (some ⟨g, 0, none⟩) n c) n xs) (hj : j < n) (u : Value) : (w.setCell ⟨g, j, none⟩ u).ownsRow base e 1 (.slice (some ⟨g, 0, none⟩) n c) n (xs.set j u) := by
  refine ⟨by rw [List.length_set]; exact h.1, ?_⟩
  rcases h.2 with ⟨hv, hn⟩ | ⟨g', cap, cur, hv, h3, h4, h5, h6, h7, h8⟩
  · omega
  · injection hv with h1 h2 h3'
    injection h1 with h1
    injection h1 with h1
    subst h1 h3'
    refine .inr ⟨g, c, cur.setIfInBounds j u, rfl, h3, Bk.set_ (show Bk w g e cur from h4) j u, h5, h6, by rw [Array.size_setIfInBounds]; exact h7, ?_⟩
    rw [Array.toList_setIfInBounds, ← h8, List.take_set]
theorem own_cellB {w : World} {base n c g j : Nat} {e : TypeId} {xs : List Value} (h : w.ownsRow base e 1 (.slice (some ⟨g, 0, none⟩) n c) n xs) (hj : j < n) : (∃ u, w.cell? ⟨g, j, none⟩ = some u) ∧ w.frozen? ⟨g, j, none⟩ = false := by
  rcases h.2 with ⟨hv, hn⟩ | ⟨g', cap, cur, hv, h3, h4, h5, h6, h7, h8⟩
  · omega
  · injection hv with h1 h2 h3'
    injection h1 with h1
    injection h1 with h1
    subst h1 h3'
    have hb : Bk w g e cur := h4
    exact ⟨⟨_, (hb.cell j).trans (Array.getElem?_eq_getElem (by omega))⟩, hb.frozen j⟩
set_option maxHeartbeats 8000000 in
theorem vdPlace_any {x0 x1 x2 x3 x4 x6 x7 x8 x9 x10 x12 x13 x14 x15 x16 x17 x18 x19 x20 x21 x22 x23 x24 x25 x26 x27 x28 x29 x30 x31 x32 x33 x34 x35 x36 x37 x38 x39 x40 x41 x42 x43 x44 x45 x46 x47 x48 x49 x50 x51 x52 x53 x54 x55 x56 x57 x58 x59 x60 x61 x62 x63 x64 x65 x66 x67 x68 x69 x70 x71 x72 x73 x74 x75 x76 x77 x78 x79 x80 x81 x82 x83 x84 x85 x86 x87 x88 x89 x90 x91 x92 x93 x94 x95 x96 x97 x98 x99 x100 x101 x102 x103 x104 x105 x106 x107 x108 : Value} {Q : Exit → Act → World → Prop} {wI w0 : World} {B base s cA i vc : Nat} {VA : Option Addr} {vs : List Int}
    (hst : StrSt w0 B s) (hB : B ≤ s) (hc : Bk w0 cA 166 #[.int .i64 (i : Int), .slice VA 3 vc]) (ho : w0.ownsRow base 3 1 (.slice VA 3 vc) 3 (vs.map (Value.int .i64))) (hv : InR kf_p vs) (hBb : B ≤ base) (hQ : Fq [s] wI w0) (hI : wI.heap.size ≤ base)
    (hN : ∀ (y80 y81 y82 y83 y84 y85 y86 y87 y88 y89 y90 y91 y92 y93 : Value) (vs2 : List Int) (w' : World), Hid (InR kf_p vs2 ∧ StrSt w' B s ∧ Bk w' cA 166 #[.int .i64 (i : Int), .slice VA 3 vc] ∧ w'.ownsRow base 3 1 (.slice VA 3 vc) 3 (vs2.map (Value.int .i64)) ∧ Fq [s] wI w' ∧ Kx B [189, 3] w0 w') → Q .normal ⟨#[x0, x1, x2, x3, x4, .pointer (some ⟨s, 0, none⟩), x6, x7, x8, x9, x10, .pointer (some ⟨cA, 0, none⟩), x12, x13, x14, x15, x16, x17, x18, x19, x20, x21, x22, x23, x24, x25, x26, x27, x28, x29, x30, x31, x32, x33, x34, x35, x36, x37, x38, x39, x40, x41, x42, x43, x44, x45, x46, x47, x48, x49, x50, x51, x52, x53, x54, x55, x56, x57, x58, x59, x60, x61, x62, x63, x64, x65, x66, x67, x68, x69, x70, x71, x72, x73, x74, x75, x76, x77, x78, x79, y80, y81, y82, y83, y84, y85, y86, y87, y88, y89, y90, y91, y92, y93, x94, x95, x96, x97, x98, x99, x100, x101, x102, x103, x104, x105, x106, x107, x108], []⟩ w') :
    Code.wp Try.prog vdR20 Q ⟨#[x0, x1, x2, x3, x4, .pointer (some ⟨s, 0, none⟩), x6, x7, x8, x9, x10, .pointer (some ⟨cA, 0, none⟩), x12, x13, x14, x15, x16, x17, x18, x19, x20, x21, x22, x23, x24, x25, x26, x27, x28, x29, x30, x31, x32, x33, x34, x35, x36, x37, x38, x39, x40, x41, x42, x43, x44, x45, x46, x47, x48, x49, x50, x51, x52, x53, x54, x55, x56, x57, x58, x59, x60, x61, x62, x63, x64, x65, x66, x67, x68, x69, x70, x71, x72, x73, x74, x75, x76, x77, x78, x79, x80, x81, x82, x83, x84, x85, x86, x87, x88, x89, x90, x91, x92, x93, x94, x95, x96, x97, x98, x99, x100, x101, x102, x103, x104, x105, x106, x107, x108], []⟩ w0 := by
  conv => arg 2; whnf
  obtain ⟨g, rfl⟩ : ∃ g, VA = some ⟨g, 0, none⟩ := by
    obtain ⟨g, cap, hvv, _, _⟩ := ho.form (by omega)
    injection hvv with h1
    exact ⟨g, h1⟩
  have HNX := Lib.hid next_any
  have hbs : B ≤ w0.heap.size := hst.lo hB
  obtain ⟨scs, hsk⟩ := hst.bk
  have hgc : g ≠ cA := fun e => own_ne ho hc (by decide) (by rw [← e]; rfl)
  have hgs : g ≠ s := fun e => own_ne ho hsk (by decide) (by rw [← e]; rfl)
  have hcs : cA ≠ s := hc.ne_ hsk (by decide)
  have hgI : wI.heap.size ≤ g := Nat.le_trans hI (ho.lt g rfl).1
  have hgB : B ≤ g := Nat.le_trans hBb (ho.lt g rfl).1
  obtain ⟨u0, hu0⟩ : ∃ z, z = w0.drew := ⟨_, rfl⟩
  have HC0 : Hid (Bk u0 cA 166 #[.int .i64 (i : Int), .slice (some ⟨g, 0, none⟩) 3 vc]) := Lib.hid (by rw [hu0]; exact hc.drew)
  have HO0 : Hid (u0.ownsRow base 3 1 (.slice (some ⟨g, 0, none⟩) 3 vc) 3 (vs.map (Value.int .i64))) := Lib.hid (by rw [hu0]; exact (Kx.refl (B := 0) (F := [])).drew.own ho (by simp))
  have HS0 : Hid (StrSt u0 B s) := Lib.hid (by rw [hu0]; exact hst.below (Below.refl _ _).drew hbs)
  have HK0 : Hid (Kx B [189, 3] w0 u0) := Lib.hid (by rw [hu0]; exact Kx.refl.drew)
  have HQ0 : Hid (Fq [s] wI u0) := Lib.hid (by rw [hu0]; exact hQ.drew)
  have HV := Lib.hid hv
  clear hst hc ho hsk hv
  refine wp_region_noPanic ?_
  refine wp_region_H (S := fun wz => wz.cell? ⟨cA, 1, none⟩ = some (.slice (some ⟨g, 0, none⟩) 3 vc)) (by kernel_rfl) ?_
  rw [← hu0]
  clear hu0
  refine wpAnyH_val (i := 0) (v := .pointer (some ⟨cA, 1, none⟩)) (d := some 80) rfl rfl (by kernel_rfl) (by kernel_rfl) (by kernel_rfl) (fun _ _ _ h => h) (Or.inl ⟨by rfl, fun w hS => by (go_simp)⟩) (HC0.out.cell 1) ?_
  (try simp only [Act.put, List.setIfInBounds_toArray, List.set_cons_zero, List.set_cons_succ])
  refine wpAnyH_val (i := 1) (v := .slice (some ⟨g, 0, none⟩) 3 vc) (d := some 81) rfl rfl (by kernel_rfl) (by kernel_rfl) (by kernel_rfl) (fun _ _ _ h => h) (Or.inl ⟨by rfl, fun w hS => by (go_simp)⟩) (HC0.out.cell 1) ?_
  (try simp only [Act.put, List.setIfInBounds_toArray, List.set_cons_zero, List.set_cons_succ])
  refine wpAnyH_val (i := 2) (v := .pointer (some ⟨cA, 1, none⟩)) (d := some 82) rfl rfl (by kernel_rfl) (by kernel_rfl) (by kernel_rfl) (fun _ _ _ h => h) (Or.inl ⟨by rfl, fun w hS => by (go_simp)⟩) (HC0.out.cell 1) ?_
  (try simp only [Act.put, List.setIfInBounds_toArray, List.set_cons_zero, List.set_cons_succ])
  refine wpAnyH_val (i := 3) (v := .slice (some ⟨g, 0, none⟩) 3 vc) (d := some 83) rfl rfl (by kernel_rfl) (by kernel_rfl) (by kernel_rfl) (fun _ _ _ h => h) (Or.inl ⟨by rfl, fun w hS => by (go_simp)⟩) (HC0.out.cell 1) ?_
  (try simp only [Act.put, List.setIfInBounds_toArray, List.set_cons_zero, List.set_cons_succ])
  refine wpAnyH_val (i := 4) (v := .pointer (some ⟨s, 0, none⟩)) (d := some 84) rfl rfl (by kernel_rfl) (by kernel_rfl) (by kernel_rfl) (fun _ _ _ h => h) (Or.inl ⟨by rfl, fun w hS => by (go_simp)⟩) (HC0.out.cell 1) ?_
  (try simp only [Act.put, List.setIfInBounds_toArray, List.set_cons_zero, List.set_cons_succ])
  refine wpAnyH_val (i := 8) (v := .pointer (some ⟨s, 0, none⟩)) (d := some 88) rfl rfl (by kernel_rfl) (by kernel_rfl) (by kernel_rfl) (fun _ _ _ h => h) (Or.inl ⟨by rfl, fun w hS => by (go_simp)⟩) (HC0.out.cell 1) ?_
  (try simp only [Act.put, List.setIfInBounds_toArray, List.set_cons_zero, List.set_cons_succ])
  refine wpAnyH_oneW (i := 5) rfl (by kernel_rfl) (by rfl) ?_
  go_simp
  go_at_call 98
  (with_reducible refine (HNX.out s B 9 _ HS0.out hB (by omega) (by omega)).mono ?_)
  rintro e u1 ⟨a, rfl, a0, a1, hst6, hg6⟩
  have HC1 : Hid (Bk u1 cA 166 #[.int .i64 (i : Int), .slice (some ⟨g, 0, none⟩) 3 vc]) := Lib.hid (HC0.out.grown hg6 (fun e => by injection e with e; omega))
  have HO1 : Hid (u1.ownsRow base 3 1 (.slice (some ⟨g, 0, none⟩) 3 vc) 3 (vs.map (Value.int .i64))) := Lib.hid (own_keepB HO0.out fun b hb => hg6.block b (HO0.out.lt b hb).2 (fun e => by injection e with e; have hb : g = b := (by simpa [Value.ownBlock] using hb); omega))
  have HK1 : Hid (Kx B [189, 3] w0 u1) := Lib.hid (HK0.out.trans ((Kx.grownS (HS0.out.bk.choose_spec) hg6 hB).mono (Nat.le_refl _) (by simp)))
  have HS1 := Lib.hid hst6
  have hwaa : IntKind.i64.wrap (a - 4) = a - 4 := wrap_small2 (by omega) (by omega)
  have hwba : IntKind.i64.wrap ((a - 4) * 65536) = (a - 4) * 65536 := wrap_small2 (by omega) (by omega)
  have HQ1 : Hid (Fq [s] wI u1) := Lib.hid (HQ0.out.grown hg6 (fun g hg => .inl (by injection hg with hg; simp [hg])))
  clear hst6 hg6
  refine And.intro (HC1.out.cell 1) ?_
  (try simp only [Act.put, List.setIfInBounds_toArray, List.set_cons_zero, List.set_cons_succ])
  refine wpAnyH_val (i := 6) (v := .int .i64 (a - 4)) (d := some 86) rfl rfl (by kernel_rfl) (by kernel_rfl) (by kernel_rfl) (fun _ _ _ h => h) (Or.inl ⟨by rfl, fun w hS => by (go_simp)⟩) (HC1.out.cell 1) ?_
  (try simp only [Act.put, List.setIfInBounds_toArray, List.set_cons_zero, List.set_cons_succ])
  refine wpAnyH_val (i := 7) (v := .int .i64 ((a - 4) * 65536)) (d := some 87) rfl rfl (by kernel_rfl) (by kernel_rfl) (by kernel_rfl) (fun _ _ _ h => h) (Or.inl ⟨by rfl, fun w hS => by (go_simp)⟩) (HC1.out.cell 1) ?_
  (try simp only [Act.put, List.setIfInBounds_toArray, List.set_cons_zero, List.set_cons_succ])
  refine wpAnyH_oneW (i := 9) rfl (by kernel_rfl) (by rfl) ?_
  go_simp
  go_at_call 98
  (with_reducible refine (HNX.out s B 9 _ HS1.out hB (by omega) (by omega)).mono ?_)
  rintro e u2 ⟨b, rfl, b0, b1, hst6, hg6⟩
  have HC2 : Hid (Bk u2 cA 166 #[.int .i64 (i : Int), .slice (some ⟨g, 0, none⟩) 3 vc]) := Lib.hid (HC1.out.grown hg6 (fun e => by injection e with e; omega))
  have HO2 : Hid (u2.ownsRow base 3 1 (.slice (some ⟨g, 0, none⟩) 3 vc) 3 (vs.map (Value.int .i64))) := Lib.hid (own_keepB HO1.out fun b hb => hg6.block b (HO1.out.lt b hb).2 (fun e => by injection e with e; have hb : g = b := (by simpa [Value.ownBlock] using hb); omega))
  have HK2 : Hid (Kx B [189, 3] w0 u2) := Lib.hid (HK1.out.trans ((Kx.grownS (HS1.out.bk.choose_spec) hg6 hB).mono (Nat.le_refl _) (by simp)))
  have HS2 := Lib.hid hst6
  have hwab : IntKind.i64.wrap (b - 4) = b - 4 := wrap_small2 (by omega) (by omega)
  have hwbb : IntKind.i64.wrap ((b - 4) * 65536) = (b - 4) * 65536 := wrap_small2 (by omega) (by omega)
  have HQ2 : Hid (Fq [s] wI u2) := Lib.hid (HQ1.out.grown hg6 (fun g hg => .inl (by injection hg with hg; simp [hg])))
  clear hst6 hg6
  refine And.intro (HC2.out.cell 1) ?_
  (try simp only [Act.put, List.setIfInBounds_toArray, List.set_cons_zero, List.set_cons_succ])
  refine wpAnyH_val (i := 10) (v := .int .i64 (b - 4)) (d := some 90) rfl rfl (by kernel_rfl) (by kernel_rfl) (by kernel_rfl) (fun _ _ _ h => h) (Or.inl ⟨by rfl, fun w hS => by (go_simp)⟩) (HC2.out.cell 1) ?_
  (try simp only [Act.put, List.setIfInBounds_toArray, List.set_cons_zero, List.set_cons_succ])
  refine wpAnyH_val (i := 11) (v := .int .i64 ((b - 4) * 65536)) (d := some 91) rfl rfl (by kernel_rfl) (by kernel_rfl) (by kernel_rfl) (fun _ _ _ h => h) (Or.inl ⟨by rfl, fun w hS => by (go_simp)⟩) (HC2.out.cell 1) ?_
  (try simp only [Act.put, List.setIfInBounds_toArray, List.set_cons_zero, List.set_cons_succ])
  refine wpAnyH_val (i := 12) (v := .pointer (some ⟨g, 0, none⟩)) (d := some 92) rfl rfl (by kernel_rfl) (by kernel_rfl) (by kernel_rfl) (fun _ _ _ h => h) (Or.inl ⟨by rfl, fun w hS => by (go_simp)⟩) (HC2.out.cell 1) ?_
  (try simp only [Act.put, List.setIfInBounds_toArray, List.set_cons_zero, List.set_cons_succ])
  have hbs2 : B ≤ u2.heap.size := HS2.out.lo hB
  obtain ⟨⟨q13, c13⟩, f13⟩ := own_cellB HO2.out (j := 0) (by omega)
  refine wpAnyH_oneW (i := 13) rfl (by kernel_rfl) (by rfl) ?_
  go_simp
  obtain ⟨u3, hu3⟩ : ∃ z, z = u2.setCell ⟨g, 0, none⟩ (.int .i64 ((a - 4) * 65536)) := ⟨_, rfl⟩
  have HC3 : Hid (Bk u3 cA 166 #[.int .i64 (i : Int), .slice (some ⟨g, 0, none⟩) 3 vc]) := Lib.hid (by rw [hu3]; exact HC2.out.far (p := ⟨g, 0, none⟩) (Ne.symm hgc) _)
  have HO3 : Hid (u3.ownsRow base 3 1 (.slice (some ⟨g, 0, none⟩) 3 vc) 3 ((vs.set 0 ((a - 4) * 65536)).map (Value.int .i64))) := Lib.hid (by rw [hu3, List.map_set]; exact own_setB HO2.out (by omega) _)
  have HS3 : Hid (StrSt u3 B s) := Lib.hid (HS2.out.kx (B' := B) (F := [3]) (by rw [hu3]; obtain ⟨cs, hk⟩ := own_ty HO2.out (g := g) rfl; exact Kx.refl.set hk hgB (by simp) 0 _) (Nat.le_refl _) hbs2 (by decide))
  have HK3 : Hid (Kx B [189, 3] w0 u3) := Lib.hid (by rw [hu3]; obtain ⟨cs, hk⟩ := own_ty HO2.out (g := g) rfl; exact HK2.out.set hk hgB (by simp) 0 _)
  have HQ3 : Hid (Fq [s] wI u3) := Lib.hid (by rw [hu3]; exact HQ2.out.set (.inr hgI) 0 _)
  rw [← hu3]
  clear hu3 c13 f13
  refine And.intro (HC2.out.cell 1) ?_
  (try simp only [Act.put, List.setIfInBounds_toArray, List.set_cons_zero, List.set_cons_succ])
  have hbs3 : B ≤ u3.heap.size := HS3.out.lo hB
  refine wpAnyH_val (i := 14) (v := .pointer (some ⟨g, 1, none⟩)) (d := some 93) rfl rfl (by kernel_rfl) (by kernel_rfl) (by kernel_rfl) (fun _ _ _ h => h) (Or.inl ⟨by rfl, fun w hS => by (go_simp)⟩) (HC3.out.cell 1) ?_
  (try simp only [Act.put, List.setIfInBounds_toArray, List.set_cons_zero, List.set_cons_succ])
  obtain ⟨⟨q15, c15⟩, f15⟩ := own_cellB HO3.out (j := 1) (by omega)
  refine wpAnyH_oneW (i := 15) rfl (by kernel_rfl) (by rfl) ?_
  go_simp
  obtain ⟨u4, hu4⟩ : ∃ z, z = u3.setCell ⟨g, 1, none⟩ (.int .i64 ((b - 4) * 65536)) := ⟨_, rfl⟩
  have HC4 : Hid (Bk u4 cA 166 #[.int .i64 (i : Int), .slice (some ⟨g, 0, none⟩) 3 vc]) := Lib.hid (by rw [hu4]; exact HC3.out.far (p := ⟨g, 1, none⟩) (Ne.symm hgc) _)
  have HO4 : Hid (u4.ownsRow base 3 1 (.slice (some ⟨g, 0, none⟩) 3 vc) 3 (((vs.set 0 ((a - 4) * 65536)).set 1 ((b - 4) * 65536)).map (Value.int .i64))) := Lib.hid (by rw [hu4, List.map_set]; exact own_setB HO3.out (by omega) _)
  have HS4 : Hid (StrSt u4 B s) := Lib.hid (HS3.out.kx (B' := B) (F := [3]) (by rw [hu4]; obtain ⟨cs, hk⟩ := own_ty HO3.out (g := g) rfl; exact Kx.refl.set hk hgB (by simp) 1 _) (Nat.le_refl _) hbs3 (by decide))
  have HK4 : Hid (Kx B [189, 3] w0 u4) := Lib.hid (by rw [hu4]; obtain ⟨cs, hk⟩ := own_ty HO3.out (g := g) rfl; exact HK3.out.set hk hgB (by simp) 1 _)
  have HQ4 : Hid (Fq [s] wI u4) := Lib.hid (by rw [hu4]; exact HQ3.out.set (.inr hgI) 1 _)
  rw [← hu4]
  clear hu4 c15 f15
  refine And.intro (HC3.out.cell 1) ?_
  (try simp only [Act.put, List.setIfInBounds_toArray, List.set_cons_zero, List.set_cons_succ])
  refine wpAnyH_done (by kernel_rfl) ?_ _
  refine NoPanic.normal ?_
  have HF : Hid (InR kf_p ((vs.set 0 ((a - 4) * 65536)).set 1 ((b - 4) * 65536)) ∧ StrSt u4 B s ∧ Bk u4 cA 166 #[.int .i64 (i : Int), .slice (some ⟨g, 0, none⟩) 3 vc] ∧ u4.ownsRow base 3 1 (.slice (some ⟨g, 0, none⟩) 3 vc) 3 (((vs.set 0 ((a - 4) * 65536)).set 1 ((b - 4) * 65536)).map (Value.int .i64)) ∧ Fq [s] wI u4 ∧ Kx B [189, 3] w0 u4) := Lib.hid ⟨HV.out.place ⟨a0, a1⟩ ⟨b0, b1⟩, HS4.out, HC4.out, HO4.out, HQ4.out, HK4.out⟩
  exact hN _ _ _ _ _ _ _ _ _ _ _ _ _ _ _ _ HF
end Go.Proofs.Ytnidcmhfbkdioaa
