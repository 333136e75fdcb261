/-
  The contracts of kind.Copy and world.Copy. Conditions: what is read can be read; at most 1048576 elements of each.
-/
import Derived.Test.YtnidcmhfbkdioaaMj
import Derived.Test.YtnidcmhfbkdioaaWb
namespace Go.Proofs.Ytnidcmhfbkdioaa
open Go.RowKit
set_option maxRecDepth 100000

section
variable {P : Program}
/-- 'append(s, x...)' as one step of a region that draws. -/
theorem step_append_rd {ops : Array Oper} {o : Oper} {a : Act} {w : World} {K : Act → World → Prop} {Q : Exit → Act → World → Prop} {E : Prop} (hgd : o.guard = none) (s x : Operand) (t : TypeId)
    (ho : o.op = .call { callee := .builtin .append, args := #[s, x], argTypes := #[t, t] })
    (base : Nat) (e : TypeId) (i : TypeInfo) (z : Value) (size bytes : Nat) (ht : P.underlying t = some (.slice e)) (hi : P.info? e = some i) (hz : i.zero = some z)
    (hsize : i.size = size) (hby : i.bytes = bytes) (hzs : z.cells.size = size) (hsz : 0 < size)
    (v : Value) (n : Nat) (xs : List Value) (hs : a.eval s = v) (hown : w.ownsRow base e size v n xs)
    (B : Nat) (A : Option Addr) (m c : Nat) (news : List Value) (hx : a.eval x = .slice A m c) (hr : Rd w B size A m news) (h1 : ∀ u ∈ news, u.oneCell' = true)
    (n' : Nat) (hn' : n' = n + m) (h63 : n' ≤ maxLen) (hbytes : n' * bytes ≤ 140737488355328) (hbase : base ≤ w.heap.size)
    (h : ∀ A' c' w', w'.ownsRow base e size (.slice A' n' c') n' (xs ++ news) → w.grownBy w' v.ownBlock → K (a.put o.dst (.slice A' n' c')) w') :
    if Region.wanted o (yielded ops a.tmps) = true then Oper.wp P o a w K Q else E := by
  have hw : Region.wanted o (yielded ops a.tmps) = true := by simp [Region.wanted, hgd]
  rw [if_pos hw]
  subst hn'
  exact wp_append_rd w s x t ho base e i z size bytes ht hi hz hsize hby hzs hsz v n xs hs hown B A m c news hx hr h1 h63 hbytes hbase fun A' c' w' h2 h3 _ => h A' c' w' h2 h3
/-- 'append(s, x)', ONE element, as one step of a region that draws. -/
theorem step_append_one {ops : Array Oper} {o : Oper} {a : Act} {w : World} {K : Act → World → Prop} {Q : Exit → Act → World → Prop} {E : Prop} (hgd : o.guard = none) (s x : Operand) (t : TypeId)
    (ho : o.op = .call { callee := .builtin .append, args := #[s, x], argTypes := #[t, t] })
    (base : Nat) (e : TypeId) (i : TypeInfo) (z : Value) (size bytes : Nat) (ht : P.underlying t = some (.slice e)) (hi : P.info? e = some i) (hz : i.zero = some z)
    (hsize : i.size = size) (hby : i.bytes = bytes) (hzs : z.cells.size = size) (hsz : 0 < size)
    (v : Value) (n : Nat) (xs : List Value) (hs : a.eval s = v) (hown : w.ownsRow base e size v n xs)
    (b c : Nat) (t' : TypeId) (cs : Array Value) (hx : a.eval x = .slice (some ⟨b, 0, none⟩) 1 c) (hr : Bk w b t' cs) (hcs : cs.size = size) (h1 : ∀ u ∈ cs.toList, u.oneCell' = true)
    (n' : Nat) (hn' : n' = n + 1) (h63 : n' ≤ maxLen) (hbytes : n' * bytes ≤ 140737488355328) (hbase : base ≤ w.heap.size)
    (h : ∀ g' c' w', w'.ownsRow base e size (.slice (some ⟨g', 0, none⟩) n' c') n' (xs ++ cs.toList) → w.grownBy w' v.ownBlock → (v.ownBlock = some g' ∨ g' = w.heap.size) → K (a.put o.dst (.slice (some ⟨g', 0, none⟩) n' c')) w') :
    if Region.wanted o (yielded ops a.tmps) = true then Oper.wp P o a w K Q else E := by
  have hw : Region.wanted o (yielded ops a.tmps) = true := by simp [Region.wanted, hgd]
  rw [if_pos hw]
  subst hn'
  have hrd : Rd w w.heap.size size (some ⟨b, 0, none⟩) 1 cs.toList :=
    ⟨by simp [hcs], fun _ => ⟨_, _, rfl, hr.lt, fun j u hu => by
      rw [Nat.zero_add]
      exact (hr.cell j).trans (by simpa using hu)⟩⟩
  refine wp_append_rd w s x t ho base e i z size bytes ht hi hz hsize hby hzs hsz v n xs hs hown _ _ 1 c _ hx hrd h1 h63 hbytes hbase fun A' c' w' h2 h3 h4 => ?_
  obtain ⟨g, cap, hv, _, hlt⟩ := h2.form (by omega)
  have hA : A' = some ⟨g, 0, none⟩ := by injection hv
  subst hA
  refine h g c' w' h2 h3 ?_
  rcases h4 with h4 | h4
  · exact .inl (by rw [← h4]; rfl)
  · exact .inr (by simpa [Value.ownBlock] using h4)
end
theorem fdCs_one (l : List Fd) : ∀ u ∈ fdCs l, u.oneCell' = true := by
  intro u hu
  obtain ⟨f, _, hf⟩ := List.mem_flatMap.1 hu
  simp [Fd.cs] at hf
  rcases hf with rfl | rfl | rfl <;> rfl

set_option maxHeartbeats 1600000 in
theorem kcopy_any {w : World} {B n c : Nat} {A : Option Addr} {l : List Kd} (h : KsOk w B A n c l) (hn : n ≤ 1048576) (hv : ∀ x ∈ l, x.n ≤ 1048576) :
    Calls Try.prog 169 #[.slice A n c] w fun e w' => ∃ g l', e = .returned (.slice (some ⟨g, 0, none⟩) n n) ∧ KsY w' 0 (some ⟨g, 0, none⟩) n n l' ∧ l'.map Kd.p = l.map Kd.p ∧ Below w.heap.size w w' := by
  obtain ⟨i0, hi0, hz0, hz1, hz2⟩ := info_parts T.infoKd
  obtain ⟨i6, hi6, hz60, hz61, hz62⟩ := info_parts T.infoFd
  have hlo := h.lo
  have hcap := h.cap
  have hcap2 := h.cap2
  have HC := Lib.hid h
  have HV := Lib.hid hv
  clear h hv
  go_enter Try.func169, Try.ntmps169
  go_wp2_with
    (at_make
     go_must (refine wpList_make_full _ rfl _ _ 22 rfl w.heap.size 63 i0 (.agg #[.string ByteArray.empty, .slice none 0 0]) 2 Try.underlying22 hi0 hz0 hz1 .i64 .i64 _ _ n rfl rfl rfl rfl (by rw [hz2]; omega) (by unfold maxLen; omega) (Nat.le_refl _) ?_)
     go_loud (
       intro w3 hown3 hg3
       obtain ⟨hgc, hf3⟩ := Fill.made hown3
       have hb3 := (Below.refl w.heap.size w).grown hg3 (Nat.le_refl _) (fun q hq => by cases hq)
       clear hown3 hg3))
  obtain ⟨gO, hgO⟩ : ∃ g, g = w.heap.size := ⟨_, rfl⟩
  rw [← hgO] at hf3 ⊢
  have hgc : w.heap.size ≤ gO := by omega
  have HI0 : Hid (Fill w3 gO 63 2 n 0 (kdCs []) ∧ Below w.heap.size w w3) := Lib.hid ⟨hf3, hb3⟩
  have HGO := Lib.hid hgO
  clear hf3 hb3 hgO
  go_loopw [11] (fun iv wr => ∃ (k : Nat) (l1 : List Kd), k ≤ n ∧ iv = .int .i64 k ∧ Hid (Fill wr gO 63 2 n k (kdCs l1) ∧ Below w.heap.size w wr) ∧ Hid (l1.map Kd.p = (l.take k).map Kd.p ∧ ∀ x ∈ l1, KdY wr 0 x)) (fun iv _ => n - (intOf iv).toNat)
  case atStart => exact ⟨0, [], Nat.zero_le _, rfl, HI0, Lib.hid ⟨rfl, (fun x hx => by cases hx)⟩⟩
  case round =>
    clear HI0
    obtain ⟨k, l1, hk, rfl, HI, HL⟩ := hrel
    by_cases hlt : k < n
    · have hkz : (k : Int) < n := by omega
      obtain ⟨x, hx⟩ : ∃ x, l[k]? = some x := ⟨_, List.getElem?_eq_getElem (by have := HC.out.len; omega)⟩
      have hcw := HC.out.below (HI.out.2.mono hlo)
      have hxo := hcw.ok x (List.mem_of_getElem? hx)
      have hxs := HV.out x (List.mem_of_getElem? hx)
      obtain ⟨b, o, rfl, hbb, q0, q1⟩ := hcw.rd.kd hlt hx
      have hcl := fun wx (hb : Below B wr wx) => hxo.rd.below hb
      have HCL := Lib.hid hcl
      have HX := Lib.hid (And.intro hx hxo)
      have HLo := Lib.hid hlo
      clear hx hcw hxo hcl
      generalize hxk : x.nm = xk at *
      generalize hxA : x.A = xA at *
      generalize hxn : x.n = xn at *
      generalize hxc : x.c = xc at *
      have HXV := Lib.hid (And.intro hxk (And.intro hxA (And.intro hxn hxc)))
      clear hxk hxA hxn hxc
      go_wp2_with fail
      have hb1 := (Below.refl wr.heap.size wr).alloc (Nat.le_refl _) (.cells #[.string xk, .slice xA xn xc] 63)
      have hh1 := Bk.new wr 63 #[.string xk, .slice xA xn xc]
      have hO1 := HI.out.1.below (hb1) HI.out.1.lt
      have hw1 := HI.out.2.trans (hb1.mono HI.out.2.size)
      have hgh : gO < wr.heap.size := HI.out.1.lt
      have hB1 : B ≤ wr.heap.size := Nat.le_trans hlo HI.out.2.size
      have hbB : Below B wr (wr.alloc (.cells #[.string xk, .slice xA xn xc] 63)) := hb1.mono hB1
      have HB1 := Lib.hid hb1
      clear hb1 q0 q1
      generalize wr.alloc (.cells #[.string xk, .slice xA xn xc] 63) = W1 at *
      generalize hhh : wr.heap.size = hh at *
      have hgh2 : hh ≠ gO := by omega
      have s1 : W1.drew.cell? ⟨hh, 0, none⟩ = some (.string xk) ∧ W1.drew.cell? ⟨hh, 1, none⟩ = some (.slice xA xn xc) := ⟨hh1.cell 0, hh1.cell 1⟩
      have hrd : Rd W1.drew B 3 xA xn (fdCs x.fds) := HCL.out _ hbB.drew
      have HH1 := Lib.hid hh1
      have HO1 := Lib.hid hO1
      have HW1 := Lib.hid hw1
      have hw1s := hh1.lt
      have hB2 : B ≤ W1.drew.heap.size := Nat.le_trans hB1 (Nat.le_of_lt hw1s)
      have hbase : w.heap.size ≤ W1.drew.heap.size := HW1.out.size
      clear hh1 hO1 hw1
      go_region_held3 (fun wx => wx.cell? ⟨hh, 0, none⟩ = some (.string xk) ∧ wx.cell? ⟨hh, 1, none⟩ = some (.slice xA xn xc))
        (first | (with_reducible exact s1) | (with_reducible exact s3) | (with_reducible exact s4) | go_keep)
        (first
          | ((refine step_append_rd rfl (.const (.slice none 0 0)) (.tmp 21) 61 rfl W1.drew.heap.size 66 i6 (.agg #[.string ByteArray.empty, .int .i64 0, .int .i64 0]) 3 32 Try.underlying61 hi6 hz60 hz61 hz62 rfl (by decide) (.slice none 0 0) 0 [] rfl (World.ownsRow_nil _ _ _ _) B xA xn xc (fdCs x.fds) rfl hrd (fdCs_one _) xn ?c1 ?c2 ?c3 ?c4 ?_)
             case c1 => omega
             case c2 => unfold maxLen; omega
             case c3 => omega
             case c4 => exact Nat.le_refl _
             intro A3 c3 w3 hown3 hg3
             rw [List.nil_append] at hown3
             have hb3 : Below W1.drew.heap.size W1.drew w3 := (Below.refl _ _).grown hg3 (Nat.le_refl _) (fun q hq => by cases hq)
             have hh3 := HH1.out.drew.below hb3 HH1.out.lt
             have hO3 := Fill.below (w := W1.drew) (HO1.out.keep (F := []) (Kx.refl (B := 0) |>.drew) (by simp)) hb3 (by have := HO1.out.lt; exact this)
             have s3 : w3.cell? ⟨hh, 0, none⟩ = some (.string xk) ∧ w3.cell? ⟨hh, 1, none⟩ = some (.slice xA xn xc) := ⟨hh3.cell 0, hh3.cell 1⟩
             have hh4 := (hh3.far (p := ⟨gO, k * 2, none⟩) hgh2 (.string xk)).far (p := ⟨gO, k * 2 + 1, none⟩) hgh2 (.slice A3 xn c3)
             have s4 : ((w3.setCell ⟨gO, k * 2, none⟩ (.string xk)).setCell ⟨gO, k * 2 + 1, none⟩ (.slice A3 xn c3)).cell? ⟨hh, 0, none⟩ = some (.string xk) ∧ ((w3.setCell ⟨gO, k * 2, none⟩ (.string xk)).setCell ⟨gO, k * 2 + 1, none⟩ (.slice A3 xn c3)).cell? ⟨hh, 1, none⟩ = some (.slice xA xn xc) := ⟨hh4.cell 0, hh4.cell 1⟩
             obtain ⟨u0, o0⟩ := hO3.at_ (j := k * 2) (by omega)
             obtain ⟨u1, o1⟩ := hO3.at_ (j := k * 2 + 1) (by omega)
             have p0 := hO3.frozen (k * 2)
             have p1 := hO3.frozen (k * 2 + 1)
             have hI4 := hO3.step2 hlt (.string xk) (.slice A3 xn c3)
             have hw4 : Below w.heap.size w ((w3.setCell ⟨gO, k * 2, none⟩ (.string xk)).setCell ⟨gO, k * 2 + 1, none⟩ (.slice A3 xn c3)) := ((HW1.out.trans ((show Below W1.heap.size W1 w3 from ⟨hb3.os, hb3.tape, hb3.output, hb3.size, hb3.block⟩).mono HW1.out.size)).setCell (p := ⟨gO, k * 2, none⟩) hgc _).setCell (p := ⟨gO, k * 2 + 1, none⟩) hgc _
             have HI4 := Lib.hid (And.intro hI4 hw4)
             have HN3 := Lib.hid (And.intro hown3 hb3)
             have HO3 := Lib.hid hO3
             clear hb3 hh3 hO3 hh4 hI4 hw4 hown3 hg3))
      have hkx : Kx 0 [63] wr ((w3.setCell ⟨gO, k * 2, none⟩ (.string xk)).setCell ⟨gO, k * 2 + 1, none⟩ (.slice A3 xn c3)) := ((Kx.refl.below (show Below wr.heap.size wr W1 by rw [hhh]; exact HB1.out)).drew.below (w' := W1.drew) HN3.out.2).trans (HO3.out.kx2 (Nat.zero_le _) _ _ _ _)
      have hkx3 : Kx 0 [63] w3 ((w3.setCell ⟨gO, k * 2, none⟩ (.string xk)).setCell ⟨gO, k * 2 + 1, none⟩ (.slice A3 xn c3)) := HO3.out.kx2 (Nat.zero_le _) _ _ _ _
      have hcp := own_cap2 HN3.out.1
      have hyy : KdY ((w3.setCell ⟨gO, k * 2, none⟩ (.string xk)).setCell ⟨gO, k * 2 + 1, none⟩ (.slice A3 xn c3)) 0 ⟨xk, A3, xn, c3, x.fds⟩ :=
        ⟨(RdY.of_own HN3.out.1).keep hkx3 (by decide), by have := HX.out.2.len; rw [HXV.out.2.2.1] at this; exact this, hcp.1, hcp.2⟩
      have HLN : Hid ((l1 ++ [(⟨xk, A3, xn, c3, x.fds⟩ : Kd)]).map Kd.p = (l.take (k + 1)).map Kd.p ∧ ∀ y ∈ l1 ++ [(⟨xk, A3, xn, c3, x.fds⟩ : Kd)], KdY ((w3.setCell ⟨gO, k * 2, none⟩ (.string xk)).setCell ⟨gO, k * 2 + 1, none⟩ (.slice A3 xn c3)) 0 y) := Lib.hid ⟨by
        rw [List.take_add_one, HX.out.1, List.map_append, HL.out.1, List.map_append, ← HXV.out.1]; rfl, fun y hy => by
        rcases List.mem_append.1 hy with hy | hy
        · exact (HL.out.2 y hy).keep hkx (by decide)
        · rw [show y = ⟨xk, A3, xn, c3, x.fds⟩ by simpa using hy]; exact hyy⟩
      have HIN : Hid (Fill ((w3.setCell ⟨gO, k * 2, none⟩ (.string xk)).setCell ⟨gO, k * 2 + 1, none⟩ (.slice A3 xn c3)) gO 63 2 n (k + 1) (kdCs (l1 ++ [(⟨xk, A3, xn, c3, x.fds⟩ : Kd)])) ∧ Below w.heap.size w ((w3.setCell ⟨gO, k * 2, none⟩ (.string xk)).setCell ⟨gO, k * 2 + 1, none⟩ (.slice A3 xn c3))) := Lib.hid (by
        rw [show kdCs (l1 ++ [(⟨xk, A3, xn, c3, x.fds⟩ : Kd)]) = kdCs l1 ++ [.string xk, .slice A3 xn c3] by simp [kdCs, Kd.cs]]
        exact HI4.out)
      clear hkx hkx3 hcp hyy HI4 HO3 HN3
      go_wp2_with fail
      go_roundw
      case rel => exact ⟨k + 1, l1 ++ [(⟨xk, A3, xn, c3, x.fds⟩ : Kd)], by omega, by go_num, HIN, HLN⟩
      case measure => simp [intOf]; omega
    · obtain rfl : n = k := by omega
      have HLL := HL.out.1
      rw [List.take_of_length_le (by rw [← HC.out.len]; omega)] at HLL
      have HLP := Lib.hid HLL
      clear HLL
      go_wp2_with fail
      go_ret
      have hlen : n = l1.length := by have h := congrArg List.length HLP.out; rw [List.length_map, List.length_map] at h; rw [h]; exact HC.out.len
      exact ⟨gO, l1, rfl, ⟨HI.out.1.rd, hlen, Nat.le_refl _, by omega, HL.out.2⟩, HLP.out, HI.out.2⟩
end Go.Proofs.Ytnidcmhfbkdioaa
