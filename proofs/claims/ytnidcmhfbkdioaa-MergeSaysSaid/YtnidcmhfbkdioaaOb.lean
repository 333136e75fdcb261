/-
  The contracts of tourref4.Vals and tourref4.At. Conditions: what is read can be read.
-/
import Derived.Test.YtnidcmhfbkdioaaMf
namespace Go.Proofs.Ytnidcmhfbkdioaa
open Go.RowKit
set_option maxRecDepth 100000

theorem first_cm {l : List Cm} {k : Nat} {x : Cm} {N : Int} (hx : l[k]? = some x) (hN : x.k = N) (h : ∀ j y, j < k → l[j]? = some y → y.k ≠ N) : findC (l.map Cm.p) N = some x.vals := by
  have e := idxF_hit (p := fun x : Cm => decide (x.k = N)) hx (decide_eq_true hN) (fun j y hj hy => decide_eq_false (h j y hj hy))
  rcases idx_cm l N with ⟨i, y, h1, _, h3, h4⟩ | ⟨h1, _⟩
  · rw [e] at h3
    have : k = i := by omega
    subst this
    rw [hx] at h1
    injection h1 with h1
    rw [h1]; exact h4
  · rw [e] at h1; omega
theorem none_cm {l : List Cm} {N : Int} (h : ∀ (j : Nat) y, l[j]? = some y → y.k ≠ N) : findC (l.map Cm.p) N = none := by
  rcases idx_cm l N with ⟨i, y, h1, h2, _⟩ | ⟨_, h1⟩
  · exact absurd h2 (h i y h1)
  · exact h1
theorem first_it {l : List It} {k : Nat} {x : It} {N : Int} (hx : l[k]? = some x) (hN : x.e = N) (h : ∀ j y, j < k → l[j]? = some y → y.e ≠ N) : findI (l.map It.p) N = some x.p := by
  have e := idxF_hit (p := fun x : It => decide (x.e = N)) hx (decide_eq_true hN) (fun j y hj hy => decide_eq_false (h j y hj hy))
  rcases idx_it l N with ⟨i, y, h1, _, h3, h4⟩ | ⟨h1, _⟩
  · rw [e] at h3
    have : k = i := by omega
    subst this
    rw [hx] at h1
    injection h1 with h1
    rw [h1]; exact h4
  · rw [e] at h1; omega
theorem none_it {l : List It} {N : Int} (h : ∀ (j : Nat) y, l[j]? = some y → y.e ≠ N) : findI (l.map It.p) N = none := by
  rcases idx_it l N with ⟨i, y, h1, h2, _⟩ | ⟨_, h1⟩
  · exact absurd h2 (h i y h1)
  · exact h1

theorem below3R {w w' : World} {r B : Nat} (h : Below B w w') (hr : B ≤ r) (a b c : Value) : Below B w (((w'.setCell ⟨r, 0, none⟩ a).setCell ⟨r, 1, none⟩ b).setCell ⟨r, 2, none⟩ c) :=
  ((h.setCell (p := ⟨r, 0, none⟩) hr _).setCell (p := ⟨r, 1, none⟩) hr _).setCell (p := ⟨r, 2, none⟩) hr _
/-- The values of a component, copied; nil if there is none. -/
def ValsP (w : World) (o : Option (List Int)) (e : Ending) (w' : World) : Prop :=
  Below w.heap.size w w' ∧ ((o = none ∧ e = .returned (.slice none 0 0)) ∨ ∃ v g c, o = some v ∧ e = .returned (.slice (some ⟨g, 0, none⟩) v.length c) ∧ w'.ownsRow w.heap.size 3 1 (.slice (some ⟨g, 0, none⟩) v.length c) v.length (v.map (Value.int .i64)))

set_option maxHeartbeats 1600000 in
theorem valsR_any {w : World} {B : Nat} (x : It) (N : Nat) (h : ItOk w B x) (h8 : ∀ c ∈ x.cms, c.vals.length ≤ 1048576) :
    Calls Try.prog 70 #[.agg #[.int .i64 x.e, .int .i64 x.g, .slice x.A x.n x.c], .int .i64 N] w (ValsP w (findC (x.cms.map Cm.p) N)) := by
  obtain ⟨xe, xg, xA, xn, xc, xv⟩ := x
  have hcs : CsOk w B xA xn xc xv := h.cs
  show Calls Try.prog 70 #[.agg #[.int .i64 xe, .int .i64 xg, .slice xA xn xc], .int .i64 N] w (ValsP w (findC (xv.map Cm.p) N))
  obtain ⟨W1, hW1⟩ : ∃ W1, W1 = w.alloc (.cells #[.int .i64 xe, .int .i64 xg, .slice xA xn xc] 147) := ⟨_, rfl⟩
  have hb1 : Below w.heap.size w W1 := by rw [hW1]; exact (Below.refl _ _).alloc (Nat.le_refl _) _
  have c2 : W1.cell? ⟨w.heap.size, 2, none⟩ = some (.slice xA xn xc) := by rw [hW1]; exact (Bk.new _ _ _).cell 2
  have hB := hcs.lo
  have hcap := hcs.cap
  have hcap2 := hcs.cap2
  have HK := Lib.hid hcs
  have HB1 := Lib.hid hb1
  have H8 := Lib.hid h8
  obtain ⟨i3, hi3, hz30, hz31, hz32⟩ := info_parts T.info3
  have hN0 : (0 : Int) ≤ N := by omega
  clear h hcs hb1 h8
  go_enter Try.func70, Try.ntmps70
  go_wp2_with fail
  rw [← hW1]
  clear hW1
  go_loopw [10] (fun i wr => ∃ k : Nat, k ≤ xn ∧ i = .int .i64 k ∧ Hid (∀ j y, j < k → xv[j]? = some y → y.k ≠ N) ∧ Hid (Below w.heap.size w wr)) (fun i _ => xn - (intOf i).toNat)
  case atStart => exact ⟨0, Nat.zero_le _, rfl, Lib.hid (fun j x hj => by omega), HB1⟩
  case round =>
    clear c2
    obtain ⟨k, hk, rfl, HT, HW⟩ := hrel
    by_cases hlt : k < xn
    · obtain ⟨x, hx⟩ : ∃ x, xv[k]? = some x := ⟨_, List.getElem?_eq_getElem (by have := HK.out.len; omega)⟩
      have hkw := HK.out.below (HW.out.mono hB)
      obtain ⟨b, o, rfl, hbb, q0, q1⟩ := hkw.rd.cm hlt hx
      have hco := hkw.ok x (List.mem_of_getElem? hx)
      have hl8 := H8.out x (List.mem_of_getElem? hx)
      have hxl := hco.len
      have HR : Hid (Rd wr B 1 x.A x.n (x.vals.map (Value.int .i64))) := Lib.hid hco.rd
      have HX := Lib.hid hx
      have hkn : (k : Int) < xn := by omega
      have hk0 : (0 : Int) ≤ k := by omega
      have hws := HW.out.size
      have hxn8 : x.n ≤ 1048576 := by omega
      have HXL := Lib.hid hxl
      clear hx hkw hco hl8 hxl
      generalize hx_k : x.k = xk at *
      generalize hx_A : x.A = zA at *
      generalize hx_n : x.n = zn at *
      generalize hx_c : x.c = zc at *
      have HKE := Lib.hid hx_k
      clear hx_k hx_A hx_n hx_c
      obtain ⟨w1, hw1⟩ : ∃ w1, w1 = wr.alloc (.cells #[.int .i64 xk, .slice zA zn zc] 166) := ⟨_, rfl⟩
      have hB2 : Below wr.heap.size wr w1 := by rw [hw1]; exact (Below.refl _ _).alloc (Nat.le_refl _) _
      have hk2 : Bk w1 wr.heap.size 166 #[.int .i64 xk, .slice zA zn zc] := by rw [hw1]; exact Bk.new _ _ _
      have HB2 := Lib.hid (HW.out.trans (hB2.mono hws))
      by_cases hkN : xk = N
      · have t0 : (xk == (N : Int)) = true := by simp [hkN]
        have HKN := Lib.hid hkN
        have d1 : w1.cell? ⟨wr.heap.size, 1, none⟩ = some (.slice zA zn zc) := hk2.cell 1
        have d2 : (w1.alloc (.cells #[] 3)).cell? ⟨wr.heap.size, 1, none⟩ = some (.slice zA zn zc) := (hk2.alloc _).cell 1
        have HR1 : Hid (Rd w1 B 1 zA zn (x.vals.map (Value.int .i64))) := Lib.hid (HR.out.below (hB2.mono (by omega)))
        have hw1s : wr.heap.size ≤ w1.heap.size := hB2.size
        clear hkN hB2 hk2
        go_upto_region 5 with fail
        rw [← hw1]
        clear hw1
        go_wp2_with
          (at_builtin
           go_must (refine wpList_append_rd _ rfl (.tmp 22) (.tmp 24) _ rfl w.heap.size 3 i3 (.int .i64 0) 1 8 Try.underlying30 hi3 hz30 hz31 hz32 rfl (by decide) (.slice (some ⟨w1.heap.size, 0, none⟩) 0 0) 0 [] rfl (World.ownsRow_lit w1 #[] 0 (by omega) (by decide) rfl) B zA zn zc (x.vals.map (Value.int .i64)) rfl (HR1.out.below ((Below.refl B w1).alloc (by omega) _)) ?c1 ?c2 ?c3 ?c4 ?_)
           case c1 => (intro u hu; obtain ⟨z, _, rfl⟩ := List.mem_map.1 hu; rfl)
           case c2 => unfold maxLen; omega
           case c3 => omega
           case c4 => (simp; omega)
           intro A' c' w2 hown2 hg2 hat2)
        go_ret
        simp only [Nat.zero_add, List.nil_append] at hown2
        obtain ⟨g, hg⟩ : ∃ g, A' = some ⟨g, 0, none⟩ := by
          rcases hown2.2 with ⟨h, _⟩ | ⟨g, cap, cur, h, _⟩
          · injection h with h1
            subst h1
            rcases hat2 with h | h <;> simp [Value.ownBlock] at h
          · injection h with h1
            exact ⟨g, h1⟩
        subst hg
        have hbw : Below w.heap.size w w2 := (HB2.out.alloc (by omega) _).grown hg2 (by simp; omega) (fun q hq => by simp [Value.ownBlock] at hq; omega)
        refine ⟨hbw, .inr ⟨x.vals, g, c', first_cm HX.out (by rw [HKE.out, HKN.out]) HT.out, ?_, ?_⟩⟩
        · rw [← HXL.out]; simp
        · rw [← HXL.out]; exact hown2
      · have t0 : (xk == (N : Int)) = false := by simp [hkN]
        have HKN := Lib.hid hkN
        clear hkN hB2 hk2
        go_wp2_with fail
        rw [← hw1]
        clear hw1
        go_roundw
        case measure => simp [intOf]; omega
        case rel => exact ⟨k + 1, by omega, by go_num, Lib.hid (fun j y hj hy => by
          rcases Nat.lt_or_ge j k with h | h
          · exact HT.out j y h hy
          · obtain rfl : j = k := by omega
            rw [HX.out] at hy
            injection hy with hy
            rw [← hy, HKE.out]; exact HKN.out), HB2⟩
    · obtain rfl : xn = k := by omega
      go_wp2_with fail
      go_ret
      exact ⟨HW.out, .inl ⟨none_cm fun j y hy => HT.out j y (by have := (List.getElem?_eq_some_iff.1 hy).1; have := HK.out.len; omega) hy, rfl⟩⟩

set_option maxHeartbeats 1600000 in
theorem atR_any {w : World} {B : Nat} (x : Wd) (N : Nat) (h : WdOk w B x) :
    Calls Try.prog 109 #[.agg #[.slice x.kA x.kn x.kc, .slice x.gA x.gn x.gc, .slice x.iA x.im x.ic], .int .i64 N] w fun e w' => ItemP x N e ∧ Below w.heap.size w w' := by
  obtain ⟨kA, kn, kc, ks, gA, gn, gc, gens, iA, im, ic, its⟩ := x
  have his : IsOk w B iA im ic its := h.its
  show Calls Try.prog 109 #[.agg #[.slice kA kn kc, .slice gA gn gc, .slice iA im ic], .int .i64 N] w _
  obtain ⟨W1, hW1⟩ : ∃ W1, W1 = (w.alloc (.cells #[.slice kA kn kc, .slice gA gn gc, .slice iA im ic] 52)).alloc (.cells #[.int .i64 0, .int .i64 0, .slice none 0 0] 147) := ⟨_, rfl⟩
  have hb1 : Below w.heap.size w W1 := by rw [hW1]; exact ((Below.refl _ _).alloc (Nat.le_refl _) _).alloc (by simp) _
  have hk1 : Bk W1 w.heap.size 52 #[.slice kA kn kc, .slice gA gn gc, .slice iA im ic] := by rw [hW1]; exact (Bk.new w 52 _).alloc _
  have hk2 : Bk W1 (w.heap.size + 1) 147 #[.int .i64 0, .int .i64 0, .slice none 0 0] := by rw [hW1]; exact Bk.two _ _ _ _
  have c2 : W1.cell? ⟨w.heap.size, 2, none⟩ = some (.slice iA im ic) := hk1.cell 2
  have hB := his.lo
  have hcap := his.cap
  have hcap2 := his.cap2
  have HK := Lib.hid his
  have HB1 := Lib.hid hb1
  have HK2 := Lib.hid hk2
  have hW1s : w.heap.size + 1 < W1.heap.size := hk2.lt
  clear h his hb1 hk1 hk2
  go_enter Try.func109, Try.ntmps109
  go_wp2_with fail
  rw [← hW1]
  clear hW1
  go_loopw [11] (fun i wr => ∃ k : Nat, k ≤ im ∧ i = .int .i64 k ∧ Hid (∀ j y, j < k → its[j]? = some y → y.e ≠ N) ∧ Hid (Below w.heap.size w wr) ∧ Hid (Bk wr (w.heap.size + 1) 147 #[.int .i64 0, .int .i64 0, .slice none 0 0])) (fun i _ => im - (intOf i).toNat)
  case atStart => exact ⟨0, Nat.zero_le _, rfl, Lib.hid (fun j x hj => by omega), HB1, HK2⟩
  case round =>
    clear c2 HK2
    obtain ⟨k, hk, rfl, HT, HW, HK2⟩ := hrel
    by_cases hlt : k < im
    · obtain ⟨x, hx⟩ : ∃ x, its[k]? = some x := ⟨_, List.getElem?_eq_getElem (by have := HK.out.len; omega)⟩
      have hkw := HK.out.below (HW.out.mono hB)
      obtain ⟨b, o, rfl, hbb, q0, q1, q2⟩ := hkw.rd.it hlt hx
      have HX := Lib.hid hx
      have HX2 : Hid (ItemP ⟨kA, kn, kc, ks, gA, gn, gc, gens, some ⟨b, o, none⟩, im, ic, its⟩ N (.returned (.tuple #[.agg #[.int .i64 x.e, .int .i64 x.g, .slice x.A x.n x.c], .bool true])) ∨ x.e ≠ N) := by
        refine Lib.hid ?_
        by_cases hN : x.e = N
        · exact .inl (.inl ⟨x, List.mem_of_getElem? hx, hN, first_it hx hN HT.out, rfl⟩)
        · exact .inr hN
      have hkn : (k : Int) < im := by omega
      have hk0 : (0 : Int) ≤ k := by omega
      have hws := HW.out.size
      have hk2l := HK2.out.lt
      clear hx hkw
      generalize hx_e : x.e = xe at *
      generalize hx_g : x.g = xg at *
      generalize hx_A : x.A = zA at *
      generalize hx_n : x.n = zn at *
      generalize hx_c : x.c = zc at *
      have HKE := Lib.hid hx_e
      clear hx_e hx_g hx_A hx_n hx_c
      obtain ⟨w1, hw1⟩ : ∃ w1, w1 = wr.alloc (.cells #[.int .i64 xe, .int .i64 xg, .slice zA zn zc] 147) := ⟨_, rfl⟩
      have hB2 : Below wr.heap.size wr w1 := by rw [hw1]; exact (Below.refl _ _).alloc (Nat.le_refl _) _
      have hk3 : Bk w1 wr.heap.size 147 #[.int .i64 xe, .int .i64 xg, .slice zA zn zc] := by rw [hw1]; exact Bk.new _ _ _
      have hk4 := HK2.out.below hB2 hk2l
      have HB2 := Lib.hid (HW.out.trans (hB2.mono hws))
      by_cases hkN : xe = N
      · have t0 : (xe == (N : Int)) = true := by simp [hkN]
        have HKN := Lib.hid hkN
        have d0 : w1.cell? ⟨wr.heap.size, 0, none⟩ = some (.int .i64 xe) := hk3.cell 0
        have d1 : w1.cell? ⟨wr.heap.size, 1, none⟩ = some (.int .i64 xg) := hk3.cell 1
        have d2 : w1.cell? ⟨wr.heap.size, 2, none⟩ = some (.slice zA zn zc) := hk3.cell 2
        have r0 : w1.cell? ⟨w.heap.size + 1, 0, none⟩ = some (.int .i64 0) := hk4.cell 0
        have r1 : w1.cell? ⟨w.heap.size + 1, 1, none⟩ = some (.int .i64 0) := hk4.cell 1
        have r2 : w1.cell? ⟨w.heap.size + 1, 2, none⟩ = some (.slice none 0 0) := hk4.cell 2
        have g0 := hk4.frozen 0
        have g1 := hk4.frozen 1
        have g2 := hk4.frozen 2
        clear hkN hB2 hk3 hk4
        go_upto_region 5 with fail
        rw [← hw1]
        clear hw1
        go_wp2_with fail
        (try simp only [Exit.inBlock, Exit.then])
        refine bodyPost_ret (v := .tuple #[.agg #[.int .i64 xe, .int .i64 xg, .slice zA zn zc], .bool true]) ?_ rfl ⟨HX2.out.resolve_right (fun h => h HKN.out), below3R HB2.out (by omega) _ _ _⟩
        rw [results_cell_tmp rfl]
        go_simp
      · have t0 : (xe == (N : Int)) = false := by simp [hkN]
        have HKN := Lib.hid hkN
        clear hkN hk3
        have HK4 := Lib.hid hk4
        clear hB2 hk4
        go_wp2_with fail
        rw [← hw1]
        clear hw1
        go_roundw
        case measure => simp [intOf]; omega
        case rel => exact ⟨k + 1, by omega, by go_num, Lib.hid (fun j y hj hy => by
          rcases Nat.lt_or_ge j k with h | h
          · exact HT.out j y h hy
          · obtain rfl : j = k := by omega
            rw [HX.out] at hy
            injection hy with hy
            rw [← hy, HKE.out]; exact HKN.out), HB2, HK4⟩
    · obtain rfl : im = k := by omega
      have r0 : wr.cell? ⟨w.heap.size + 1, 0, none⟩ = some (.int .i64 0) := HK2.out.cell 0
      have r1 : wr.cell? ⟨w.heap.size + 1, 1, none⟩ = some (.int .i64 0) := HK2.out.cell 1
      have r2 : wr.cell? ⟨w.heap.size + 1, 2, none⟩ = some (.slice none 0 0) := HK2.out.cell 2
      have g0 := HK2.out.frozen 0
      have g1 := HK2.out.frozen 1
      have g2 := HK2.out.frozen 2
      go_wp2_with fail
      (try simp only [Exit.inBlock, Exit.then])
      refine bodyPost_ret (v := .tuple #[.agg #[.int .i64 0, .int .i64 0, .slice none 0 0], .bool false]) ?_ rfl ⟨.inr ⟨none_it fun j y hy => HT.out j y (by have h1 : j < its.length := (List.getElem?_eq_some_iff.1 hy).1; have := HK.out.len; omega) hy, rfl⟩, below3R HW.out (by omega) _ _ _⟩
      rw [results_cell_tmp rfl]
      go_simp
end Go.Proofs.Ytnidcmhfbkdioaa
