/-
  The contract of game.Flat at any state. Conditions: at most 10^9 numbers.
-/
import Derived.Test.YtnidcmhfbkdioaaAd
namespace Go.Proofs.Ytnidcmhfbkdioaa
open Go.RowKit
set_option maxRecDepth 100000

theorem take_flat {α : Type} (f : α → List Int) {l : List α} {i : Nat} {a : α} (h : l[i]? = some a) : ((l.take i).flatMap f).length + (f a).length ≤ (l.flatMap f).length := by
  obtain ⟨hi, rfl⟩ := List.getElem?_eq_some_iff.1 h
  have h1 : l.flatMap f = (l.take i).flatMap f ++ (l.drop i).flatMap f := by rw [← List.flatMap_append, List.take_append_drop]
  rw [h1, List.drop_eq_getElem_cons hi, List.flatMap_cons]
  simp only [List.length_append]
  omega
theorem len_rows (l : List (List Int)) (h : ∀ x ∈ l, 1 ≤ x.length) : l.length ≤ (l.flatMap id).length := by
  induction l with
  | nil => exact Nat.le_refl _
  | cons a l ih =>
    have h2 := h a (by simp)
    have h3 := ih (fun x hx => h x (by simp [hx]))
    simp only [List.flatMap_cons, List.length_append, List.length_cons, id] at *
    omega
theorem mdN_pos (m : List Int × List Int) : 1 ≤ (mdN m).length := by simp only [mdN, List.length_append, List.length_cons, List.length_nil]; omega
theorem fm_get {α β : Type} (f : α → List β) (k : Nat) (l : List α) (h : ∀ x ∈ l, (f x).length = k) (q j : Nat) (x : α) (hx : l[q]? = some x) (hj : j < k) : (l.flatMap f)[q * k + j]? = (f x)[j]? := by
  induction l generalizing q with
  | nil => simp at hx
  | cons a l ih =>
    have ha := h a (by simp)
    rw [List.flatMap_cons]
    cases q with
    | zero =>
      injection (show some a = some x by simpa using hx) with hx
      subst hx
      rw [Nat.zero_mul, Nat.zero_add, List.getElem?_append_left (by omega)]
    | succ q =>
      have e : (q + 1) * k + j = (f a).length + (q * k + j) := by rw [ha, Nat.succ_mul]; omega
      rw [e, List.getElem?_append_right (by omega), Nat.add_sub_cancel_left]
      exact ih (fun y hy => h y (by simp [hy])) q (by simpa using hx)
theorem FsO.at_ {w : World} {B k n c q : Nat} {A : Option Addr} {l : List (List Int)} {x : List Int} (h : FsO w B k A n c l) (hq : q < n) (hx : l[q]? = some x) :
    ∃ b o, A = some ⟨b, o, none⟩ ∧ b < B ∧ ∀ (j : Nat) (z : Int), x[j]? = some z → w.cell? ⟨b, o + q * k + j, none⟩ = some (.int .i64 z) := by
  obtain ⟨b, o, e, hb, hc⟩ := h.rd.2 (by omega)
  refine ⟨b, o, e, hb, fun j z hz => ?_⟩
  have hl := h.ok x (List.mem_of_getElem? hx)
  have hj : j < x.length := (List.getElem?_eq_some_iff.1 hz).1
  rw [Nat.add_assoc]
  refine hc (q * k + j) _ ?_
  unfold rwCs
  rw [fm_get (fun y : List Int => y.map (Value.int .i64)) k l (fun y hy => by rw [List.length_map]; exact h.ok y hy) q j x hx (by omega), List.getElem?_map, hz]
  rfl
theorem MsO.at_ {w : World} {B n c q : Nat} {A : Option Addr} {l : List Mdm} {x : Mdm} (h : MsO w B A n c l) (hq : q < n) (hx : l[q]? = some x) :
    ∃ b o, A = some ⟨b, o, none⟩ ∧ b < B ∧ w.cell? ⟨b, o + q * 4, none⟩ = some (.int .i64 x.n) ∧ w.cell? ⟨b, o + q * 4 + 1, none⟩ = some (.int .i64 x.g) ∧ w.cell? ⟨b, o + q * 4 + 2, none⟩ = some (.int .i64 x.q) ∧ w.cell? ⟨b, o + q * 4 + 3, none⟩ = some (.slice x.A x.k x.c) := by
  obtain ⟨b, o, e, hb, hc⟩ := h.rd.2 (by omega)
  have hg : ∀ j, j < 4 → (mdCs l)[q * 4 + j]? = x.cs[j]? := fun j hj => fm_get Mdm.cs 4 l (fun _ _ => rfl) q j x hx hj
  exact ⟨b, o, e, hb, hc (q * 4) _ ((hg 0 (by omega)).trans rfl), by rw [Nat.add_assoc]; exact hc (q * 4 + 1) _ ((hg 1 (by omega)).trans rfl), by rw [Nat.add_assoc]; exact hc (q * 4 + 2) _ ((hg 2 (by omega)).trans rfl), by rw [Nat.add_assoc]; exact hc (q * 4 + 3) _ ((hg 3 (by omega)).trans rfl)⟩
theorem len10 (x : List Int) (h : x.length = 10) : ∃ a0 a1 a2 a3 a4 a5 a6 a7 a8 a9, x = [a0, a1, a2, a3, a4, a5, a6, a7, a8, a9] := by
  match x, h with
  | [a0, a1, a2, a3, a4, a5, a6, a7, a8, a9], _ => exact ⟨a0, a1, a2, a3, a4, a5, a6, a7, a8, a9, rfl⟩
theorem len4 (x : List Int) (h : x.length = 4) : ∃ a0 a1 a2 a3, x = [a0, a1, a2, a3] := by
  match x, h with
  | [a0, a1, a2, a3], _ => exact ⟨a0, a1, a2, a3, rfl⟩

set_option maxHeartbeats 800000 in
theorem gtextG_any (base n c : Nat) (A : Option Addr) (xs : List Int) (s : ByteArray) (w : World) (hown : w.ownsRow base 3 1 (.slice A n c) n (xs.map (Value.int .i64))) (hn : n + 1 + s.size ≤ 1000000000) (hb : base ≤ w.heap.size) :
    Calls Try.prog 185 #[.slice A n c, .string s] w fun e w' => ∃ A' c', e = .returned (.slice A' (n + 1 + s.size) c') ∧ w'.ownsRow base 3 1 (.slice A' (n + 1 + s.size) c') (n + 1 + s.size) ((xs ++ textF s).map (Value.int .i64)) ∧ w.grownBy w' (Value.slice A n c).ownBlock ∧ OwnT w (.slice A n c) (.slice A' (n + 1 + s.size) c') := by
  obtain ⟨i3, hi3, hz30, hz31, hz32⟩ := info_parts T.info3
  go_enter Try.func185, Try.ntmps185
  go_wp2_with
    (at_builtin
     go_must (refine wpList_append_one _ rfl (.tmp 7) (.tmp 10) _ rfl base 3 i3 (.int .i64 0) 1 8 Try.underlying30 hi3 hz30 hz31 hz32 rfl (by decide) (.slice A n c) n _ rfl (hown.alloc _) w.heap.size 1 3 #[.int .i64 s.size] rfl (Bk.new _ _ _) rfl ?c1 (n + 1) rfl ?c2 ?c3 ?c4 ?_)
     case c1 => simp [Value.oneCell']
     case c2 => unfold maxLen; omega
     case c3 => omega
     case c4 => simp; omega
     intro g1 c1 w1 hown1 hg1 hat1
     have hcv := run_bytes_of_string (P := Try.prog) w1 9 81 5 s Try.underlying9 Try.underlying81 Try.underlying5)
  clear hcv
  obtain ⟨W1, hW1⟩ : ∃ W1, W1 = (w1.alloc (.cells (bytesRow s (grownCap w1 s.size 0 5)) 5 ((bytesRow s (grownCap w1 s.size 0 5)).size, (bytesRow s (grownCap w1 s.size 0 5)).size + 1))).drew := ⟨_, rfl⟩
  have HO : Hid (W1.ownsRow base 3 1 (.slice (some ⟨g1, 0, none⟩) (n + 1) c1) (n + 1) ((xs ++ ((s.size : Int) :: (byteL s).take 0)).map (Value.int .i64))) := Lib.hid (by rw [hW1]; rw [List.map_append]; exact World.ownsRow.drew (World.ownsRow.alloc hown1 _))
  have HH : Hid (W1.heap[w1.heap.size]? = some (.cells (bytesRow s (grownCap w1 s.size 0 5)) 5 ((bytesRow s (grownCap w1 s.size 0 5)).size, (bytesRow s (grownCap w1 s.size 0 5)).size + 1))) := Lib.hid (by rw [hW1]; exact heap_alloc_new w1 _)
  have HG : Hid (w.grownBy W1 (Value.slice A n c).ownBlock) := Lib.hid (by
    rw [hW1]
    exact Gb.drew (Gb.alloc (Gb.more (Gb.alloc (World.grownBy.refl w _) _) hg1 (.inl rfl)) _))
  have HT : Hid (OwnT w (.slice A n c) (.slice (some ⟨g1, 0, none⟩) (n + 1) c1)) := Lib.hid (by
    rcases hat1 with h | h
    · exact .inl h.symm
    · exact .inr fun g hg => by
        have : g1 = g := by simpa [Value.ownBlock] using hg
        subst this
        rw [h]; simp)
  have hw1 : w.heap.size ≤ w1.heap.size := by have := hg1.size; simp at this; omega
  rw [← hW1]
  obtain ⟨hb1, hhb⟩ : ∃ h, h = w1.heap.size := ⟨_, rfl⟩
  rw [← hhb] at HH ⊢
  generalize grownCap w1 s.size 0 5 = cap1 at *
  clear hW1 hown1 hg1 hat1 hown hhb hw1
  go_loopw [0, 15] (fun lv kv wr => ∃ (k c' : Nat) (A' : Option Addr), k ≤ s.size ∧ kv = .int .i64 k ∧ lv = .slice A' (n + 1 + k) c' ∧ Hid (wr.ownsRow base 3 1 (.slice A' (n + 1 + k) c') (n + 1 + k) ((xs ++ ((s.size : Int) :: (byteL s).take k)).map (Value.int .i64))) ∧ Hid (wr.heap[hb1]? = some (.cells (bytesRow s cap1) 5 ((bytesRow s cap1).size, (bytesRow s cap1).size + 1))) ∧ Hid (w.grownBy wr (Value.slice A n c).ownBlock) ∧ Hid (OwnT w (.slice A n c) (.slice A' (n + 1 + k) c'))) (fun _ kv _ => s.size - (intOf kv).toNat)
  case atStart => exact ⟨0, c1, some ⟨g1, 0, none⟩, Nat.zero_le _, rfl, rfl, HO, HH, HG, HT⟩
  case round =>
    clear HO HH HG HT
    obtain ⟨k, c', A', hk, rfl, rfl, HO, HH, HG, HT⟩ := hrel
    obtain ⟨wo, rfl⟩ : ∃ x, x = wr := ⟨_, rfl⟩
    by_cases hlt : k < s.size
    · have hkz : (k : Int) < s.size := by omega
      obtain ⟨x, hx⟩ : ∃ x, (byteL s)[k]? = some x := ⟨_, List.getElem?_eq_getElem (by rw [byteL_length]; exact hlt)⟩
      have hx1 : 0 ≤ x ∧ x < 256 := by
        have := List.mem_of_getElem? hx
        unfold byteL at this
        obtain ⟨b, _, rfl⟩ := List.mem_map.1 this
        exact ⟨by omega, by have := b.toNat_lt; omega⟩
      have hcell : wo.cell? ⟨hb1, k, none⟩ = some (.int .u8 x) := (cell_of_row wo hb1 k _ 5 _ HH.out).trans (bytesRow_get s cap1 k x hx)
      have hwx : IntKind.i64.wrap x = x := by rw [IntKind.wrap_i64]; omega
      have HX := Lib.hid hx
      have hbs : base ≤ wo.heap.size := by have := HG.out.size; omega
      clear hx
      obtain ⟨hx0, hx1⟩ := hx1
      go_wp2_with
        (at_builtin
         go_must (refine wpList_append_one _ rfl (.tmp 19) (.tmp 22) _ rfl base 3 i3 (.int .i64 0) 1 8 Try.underlying30 hi3 hz30 hz31 hz32 rfl (by decide) (.slice A' (n + 1 + k) c') (n + 1 + k) _ rfl (HO.out.alloc _) wo.heap.size 1 3 #[.int .i64 x] rfl (Bk.new _ _ _) rfl ?c1 (n + 1 + (k + 1)) (by omega) ?c2 ?c3 ?c4 ?_)
         case c1 => simp [Value.oneCell']
         case c2 => unfold maxLen; omega
         case c3 => omega
         case c4 => simp; omega
         intro g2 c2 w2 hown2 hg2 hat2)
      have HO2 : Hid (w2.ownsRow base 3 1 (.slice (some ⟨g2, 0, none⟩) (n + 1 + (k + 1)) c2) (n + 1 + (k + 1)) ((xs ++ ((s.size : Int) :: (byteL s).take (k + 1))).map (Value.int .i64))) := Lib.hid (by
        have e : (xs ++ ((s.size : Int) :: (byteL s).take (k + 1))).map (Value.int .i64) = (xs ++ ((s.size : Int) :: (byteL s).take k)).map (Value.int .i64) ++ [.int .i64 x] := by
          rw [List.take_add_one, HX.out]; simp
        rw [e]; exact hown2)
      have HH2 : Hid (w2.heap[hb1]? = some (.cells (bytesRow s cap1) 5 ((bytesRow s cap1).size, (bytesRow s cap1).size + 1))) := Lib.hid (by
        have hlt1 : hb1 < wo.heap.size := by
          rcases Nat.lt_or_ge hb1 wo.heap.size with h | h
          · exact h
          · have := HH.out; rw [Array.getElem?_eq_none h] at this; cases this
        rw [hg2.block hb1 (by simp; omega) (fun e => own_obj HO.out HH.out (by decide) e.symm), Below.heap_alloc wo _ hb1 hlt1]
        exact HH.out)
      have HG2 : Hid (w.grownBy w2 (Value.slice A n c).ownBlock) := Lib.hid (Gb.more (Gb.alloc HG.out _) hg2 HT.out)
      have HT2 : Hid (OwnT w (.slice A n c) (.slice (some ⟨g2, 0, none⟩) (n + 1 + (k + 1)) c2)) := Lib.hid (by
        rcases hat2 with h | h
        · rcases HT.out with h1 | h1
          · exact .inl (by rw [← h1, h]; rfl)
          · exact .inr fun g hg => h1 g (by rw [h]; exact hg)
        · exact .inr fun g hg => by
            have : g2 = g := by simpa [Value.ownBlock] using hg
            subst this
            have := HG.out.size
            rw [h]; simp; omega)
      clear hown2 hg2 hat2 hcell HO HH HG HT
      go_wp2_with fail
      go_roundw
      case rel => exact ⟨k + 1, c2, some ⟨g2, 0, none⟩, by omega, by go_num, rfl, HO2, HH2, HG2, HT2⟩
      case measure => simp [intOf]; omega
    · obtain rfl : k = s.size := by omega
      go_wp2_with fail
      go_ret
      refine ⟨A', c', rfl, ?_, HG.out, HT.out⟩
      have := HO.out
      rw [List.take_of_length_le (by rw [byteL_length]; exact Nat.le_refl _)] at this
      exact this
set_option maxHeartbeats 8000000 in
theorem flatG_any (x : Sm) (B : Nat) (w : World) (hW : SmO w B x) (hB : B ≤ w.heap.size) (hS : (flatS x.p).length ≤ 1000000000) :
    Calls Try.prog 119 #[.agg x.cs] w (RetS w 3 1 (flatS x.p).length ((flatS x.p).map (Value.int .i64))) := by
  obtain ⟨i3, hi3, hz30, hz31, hz32⟩ := info_parts T.info3
  obtain ⟨p, hp⟩ : ∃ p, p = x.d.p := ⟨_, rfl⟩
  obtain ⟨Tk, ⟨kA, kn, kc, ks, gA, gn, gc, gens, iA, im, ic, its⟩, cA, cn, cc, cts, mA, mn, mc, mds, eA, en, ec, evs⟩ := x
  have HP : Hid (p.ks = ks.map Kd.p ∧ p.gens = gens ∧ p.its = its.map It.p) := Lib.hid (by rw [hp]; exact ⟨rfl, rfl, rfl⟩)
  obtain ⟨FS, hFS⟩ : ∃ z, z = flatS (⟨Tk, p, cts, mds.map Mdm.p, evs⟩ : Sv) := ⟨_, rfl⟩
  have hFS2 : flatS (Sm.p ⟨Tk, ⟨kA, kn, kc, ks, gA, gn, gc, gens, iA, im, ic, its⟩, cA, cn, cc, cts, mA, mn, mc, mds, eA, en, ec, evs⟩) = FS := by rw [hFS, hp]; rfl
  rw [hFS2] at hS ⊢
  have hlen : 2 + (p.ks.flatMap kdN).length + 1 + p.gens.length + 1 + (p.its.flatMap itN).length + 1 + (cts.flatMap id).length + 1 + ((mds.map Mdm.p).flatMap mdN).length + 1 + (evs.flatMap id).length ≤ 1000000000 := by
    refine Nat.le_trans (Nat.le_of_eq ?_) hS
    rw [hFS]
    simp only [flatS, worldN, gensN, itsN, ctsN, mdsN, evsN, List.length_append, List.length_cons, List.length_nil]
    omega
  obtain ⟨L1, hL1⟩ : ∃ z, z = (p.ks.flatMap kdN).length := ⟨_, rfl⟩
  obtain ⟨L3, hL3⟩ : ∃ z, z = (p.its.flatMap itN).length := ⟨_, rfl⟩
  obtain ⟨L4, hL4⟩ : ∃ z, z = (cts.flatMap id).length := ⟨_, rfl⟩
  obtain ⟨L5, hL5⟩ : ∃ z, z = ((mds.map Mdm.p).flatMap mdN).length := ⟨_, rfl⟩
  obtain ⟨L6, hL6⟩ : ∃ z, z = (evs.flatMap id).length := ⟨_, rfl⟩
  rw [← hL1, ← hL3, ← hL4, ← hL5, ← hL6] at hlen
  have HL := Lib.hid (And.intro hL1 (And.intro hL3 (And.intro hL4 (And.intro hL5 hL6))))
  have HFS := Lib.hid hFS
  clear hp hFS hFS2 hL1 hL3 hL4 hL5 hL6 hS
  unfold Sm.cs
  dsimp only
  obtain ⟨W0, hW0⟩ : ∃ W0, W0 = w.alloc (.cells #[.int .i64 Tk, .slice kA kn kc, .slice gA gn gc, .slice iA im ic, .slice cA cn cc, .slice mA mn mc, .slice eA en ec] 80) := ⟨_, rfl⟩
  have hb0 : Below w.heap.size w W0 := by rw [hW0]; exact (Below.refl _ _).alloc (Nat.le_refl _) _
  have hs0 : W0.heap.size = w.heap.size + 1 := by rw [hW0]; simp
  have HB0 := Lib.hid hb0
  have HX0 : Hid (Bk W0 w.heap.size 80 #[.int .i64 Tk, .slice kA kn kc, .slice gA gn gc, .slice iA im ic, .slice cA cn cc, .slice mA mn mc, .slice eA en ec]) := Lib.hid (by rw [hW0]; exact Bk.new _ _ _)
  have HK := Lib.hid (hW.d.ks.below (hb0.mono hB))
  have HGS := Lib.hid (hW.d.gs.below (hb0.mono hB))
  have HIS := Lib.hid (hW.d.its.below (hb0.mono hB))
  have HCS := Lib.hid (hW.c.below (hb0.mono hB))
  have HMS := Lib.hid (hW.m.below (hb0.mono hB))
  have HES := Lib.hid (hW.e.below (hb0.mono hB))
  have HSZ := Lib.hid hs0
  have d0 : W0.cell? ⟨w.heap.size, 0, none⟩ = some (.int .i64 Tk) := HX0.out.cell 0
  have d1 : W0.cell? ⟨w.heap.size, 1, none⟩ = some (.slice kA kn kc) := HX0.out.cell 1
  have hkn : kn = ks.length := hW.d.ks.len
  have hgn' : gn = gens.length := hW.d.gs.len
  have hin' : im = its.length := hW.d.its.len
  have hkl : kn ≤ L1 := by rw [hkn, HL.out.1, ← List.length_map (f := Kd.p), ← HP.out.1]; exact len_flat kdN kdN_pos _
  have hgn : p.gens.length = gn := by rw [HP.out.2.1]; exact hgn'.symm
  rw [hgn] at hlen
  have HGL := Lib.hid hgn
  have hil : im ≤ L3 := by rw [hin', HL.out.2.1, ← List.length_map (f := It.p), ← HP.out.2.2]; exact len_flat itN itN_pos _
  have HKN := Lib.hid hkn
  clear hW hb0 hs0 hkn hgn' hin' hgn
  go_enter Try.func119, Try.ntmps119
  go_upto_region 1 with fail
  rw [← hW0]
  clear hW0
  obtain ⟨W1, hW1⟩ : ∃ W1, W1 = W0.alloc (.cells #[.int .i64 Tk, .int .i64 kn] 3) := ⟨_, rfl⟩
  have HR1 : Hid (RowT (w.heap.size + 1) W0 W1 (some ⟨W0.heap.size, 0, none⟩) 2 2 [Tk, (kn : Int)]) := Lib.hid (by
    rw [hW1]
    exact ⟨own_of_bk (by rw [HSZ.out]; exact Nat.le_refl _) (Bk.new _ _ _) rfl rfl (by omega), rfl, (Below.refl _ _).alloc (by rw [HSZ.out]; exact Nat.le_refl _) _⟩)
  have d1' : (W0.alloc (.cells #[.int .i64 Tk, .int .i64 kn] 3)).cell? ⟨w.heap.size, 1, none⟩ = some (.slice kA kn kc) := (HX0.out.alloc _).cell 1
  have HW1 := Lib.hid hW1
  clear hW1
  go_wp2_with fail
  rw [← HW1.out]
  clear HW1 d0 d1 d1'
  go_loopw [3, 29] (fun rv iv wr => ∃ (i m c : Nat) (A : Option Addr) (xs : List Int), i ≤ kn ∧ iv = .int .i64 i ∧ rv = .slice A m c ∧ Hid (RowT (w.heap.size + 1) W0 wr A m c xs) ∧ Hid (xs = [Tk, (kn : Int)] ++ (p.ks.take i).flatMap kdN)) (fun _ iv _ => kn - (intOf iv).toNat)
  case atStart => exact ⟨0, 2, 2, _, _, Nat.zero_le _, rfl, rfl, HR1, Lib.hid (by simp)⟩
  case round =>
    clear HR1
    obtain ⟨i, m, c, A, xs, hi, rfl, rfl, HR, HE⟩ := hrel
    obtain ⟨wo, rfl⟩ : ∃ z, z = wr := ⟨_, rfl⟩
    have hbw : w.heap.size + 1 ≤ wo.heap.size := by have := HR.out.2.2.size; have := HSZ.out; omega
    by_cases hlt : i < kn
    · obtain ⟨k, hk⟩ : ∃ k, ks[i]? = some k := ⟨_, List.getElem?_eq_getElem (by have := HKN.out; omega)⟩
      have hkso := HK.out.below (HR.out.2.2.mono (by omega))
      have hko := HK.out.ok k (List.mem_of_getElem? hk)
      obtain ⟨b, o, rfl, hbb, q0, q1⟩ := hkso.rd.kd hlt hk
      have hkp : p.ks[i]? = some k.p := by rw [HP.out.1, List.getElem?_map, hk]; rfl
      have hbd : m + 1 + k.nm.size + 1 + (k.fds.flatMap fdN).length ≤ 2 + L1 := by
        have h1 := take_flat kdN hkp
        have h2 := HR.out.2.1
        rw [HE.out] at h2
        have h3 : (kdN k.p).length = 1 + k.nm.size + 1 + (k.fds.flatMap fdN).length := by
          unfold kdN Kd.p textF
          simp only [List.length_append, List.length_cons, List.length_nil, byteL_length]
          omega
        rw [HL.out.1]
        simp only [List.length_append, List.length_cons, List.length_nil] at h2
        omega
      obtain ⟨LF, hLF⟩ : ∃ z, z = (k.fds.flatMap fdN).length := ⟨_, rfl⟩
      rw [← hLF] at hbd
      have hfl : k.n ≤ LF := by rw [hLF, hko.len]; exact len_flat fdN fdN_pos _
      have HLF := Lib.hid hLF
      clear hLF
      have HKP := Lib.hid hkp
      obtain ⟨w1, hw1⟩ : ∃ w1, w1 = wo.alloc (.cells #[.string k.nm, .slice k.A k.n k.c] 63) := ⟨_, rfl⟩
      have HB1 : Hid (Below wo.heap.size wo w1) := Lib.hid (by rw [hw1]; exact (Below.refl _ _).alloc (Nat.le_refl _) _)
      have HK1 : Hid (Bk w1 wo.heap.size 63 #[.string k.nm, .slice k.A k.n k.c]) := Lib.hid (by rw [hw1]; exact Bk.new _ _ _)
      have HKO := Lib.hid hko
      clear hkso hko hkp hk
      generalize hknm : k.nm = knm at *
      generalize hkA : k.A = fA at *
      generalize hkn : k.n = fn at *
      generalize hkc : k.c = fc at *
      have HKV := Lib.hid (And.intro hknm (And.intro hkA (And.intro hkn hkc)))
      clear hknm hkA hkn hkc
      have e0 : w1.cell? ⟨wo.heap.size, 0, none⟩ = some (.string knm) := HK1.out.cell 0
      go_upto_region 5 with fail
      rw [← hw1]
      clear hw1 q0 q1
      have HT := Lib.hid (gtextG_any (w.heap.size + 1) m c A xs knm w1 (HR.out.below HB1.out (by rw [HSZ.out]; exact Nat.le_refl _)).1 (by omega) (by have := HB1.out.size; omega))
      go_wp2_with fail
      refine HT.out.mono ?_
      clear HT
      rintro e w2 ⟨A2, c2, rfl, hown2, hg2, hat2⟩
      have HR2 := Lib.hid (HR.out.text (by rw [HSZ.out]; exact Nat.le_refl _) HB1.out hown2 hg2)
      have HK2 : Hid (Bk w2 wo.heap.size 63 #[.string knm, .slice fA fn fc]) := Lib.hid ((HR.out.below HB1.out (by rw [HSZ.out]; exact Nat.le_refl _)).box HK1.out (by decide) (Below.refl _ _) hg2)
      clear hown2 hg2 hat2
      have f1 : w2.cell? ⟨wo.heap.size, 1, none⟩ = some (.slice fA fn fc) := HK2.out.cell 1
      have f1' : (w2.alloc (.cells #[.int .i64 fn] 3)).cell? ⟨wo.heap.size, 1, none⟩ = some (.slice fA fn fc) := (HK2.out.alloc _).cell 1
      have hbw2 : w.heap.size + 1 ≤ w2.heap.size := by have := HK2.out.lt; omega
      go_wp2_with
        (at_builtin
         go_must (refine wpList_append_one _ rfl (.tmp 37) (.tmp 41) _ rfl (w.heap.size + 1) 3 i3 (.int .i64 0) 1 8 Try.underlying30 hi3 hz30 hz31 hz32 rfl (by decide) (.slice A2 (m + 1 + knm.size) c2) (m + 1 + knm.size) _ rfl (HR2.out.1.alloc _) w2.heap.size 1 3 #[.int .i64 fn] rfl (Bk.new _ _ _) rfl ?c1 (m + 1 + knm.size + 1) rfl ?c2 ?c3 ?c4 ?_)
         case c1 => simp [Value.oneCell']
         case c2 => unfold maxLen; omega
         case c3 => omega
         case c4 => simp; omega
         intro g3 c3 w3 hown3 hg3 hat3
         have hbk3 := HR2.out.box HK2.out (by decide) ((Below.refl _ _).alloc (Nat.le_refl _) _) hg3
         have f3 : w3.cell? ⟨wo.heap.size, 1, none⟩ = some (.slice fA fn fc) := hbk3.cell 1)
      have HR3 := Lib.hid (HR2.out.app (ys := [(fn : Int)]) (by rw [HSZ.out]; exact Nat.le_refl _) ((Below.refl _ _).alloc (Nat.le_refl _) _) hown3 hg3 rfl)
      clear hown3 hg3 hat3 hbk3 f3 f1 f1' HR2 HK2 HK1 HB1 e0 hbw2 HR
      obtain ⟨ys, hys⟩ : ∃ ys, ys = xs ++ textF knm ++ [(fn : Int)] := ⟨_, rfl⟩
      rw [← hys] at HR3
      have HYS := Lib.hid hys
      clear hys
      obtain ⟨m3, hm3⟩ : ∃ m3, m3 = m + 1 + knm.size + 1 := ⟨_, rfl⟩
      rw [← hm3] at HR3 ⊢
      have hm3' : m3 + LF ≤ 2 + L1 := by omega
      clear hm3
      go_loopw [3, 46] (fun rv jv wx => ∃ (j m c : Nat) (A : Option Addr) (zs : List Int), j ≤ fn ∧ jv = .int .i64 j ∧ rv = .slice A m c ∧ Hid (RowT (w.heap.size + 1) W0 wx A m c zs) ∧ Hid (zs = ys ++ (k.fds.take j).flatMap fdN)) (fun _ jv _ => fn - (intOf jv).toNat)
      case atStart => exact ⟨0, m3, c3, _, ys, Nat.zero_le _, rfl, rfl, HR3, Lib.hid (by simp)⟩
      case round =>
        have HM3 : Hid (m3 = ys.length) := Lib.hid HR3.out.2.1
        clear HR3
        obtain ⟨j, m4, c4, A4, zs, hj, rfl, rfl, HR, HZ⟩ := hrel
        obtain ⟨wx, rfl⟩ : ∃ z, z = wr := ⟨_, rfl⟩
        have hbx : w.heap.size + 1 ≤ wx.heap.size := by have := HR.out.2.2.size; have := HSZ.out; omega
        by_cases hjl : j < fn
        · obtain ⟨f, hf⟩ : ∃ f, k.fds[j]? = some f := ⟨_, List.getElem?_eq_getElem (by have := HKO.out.len; rw [HKV.out.2.2.1] at this; omega)⟩
          have hrd := (HKO.out.below (HR.out.2.2.mono (by omega))).rd
          rw [HKV.out.2.1, HKV.out.2.2.1] at hrd
          obtain ⟨fb, fo, rfl, hfb, p0, p1, p2⟩ := hrd.fd hjl hf
          have hbd2 : m4 + 1 + f.nm.size + 2 ≤ 2 + L1 := by
            have h1 := take_flat fdN hf
            have h2 := HR.out.2.1
            rw [HZ.out] at h2
            have h3 : (fdN f).length = 1 + f.nm.size + 2 := by
              unfold fdN textF
              simp only [List.length_append, List.length_cons, List.length_nil, byteL_length]
              omega
            have h4 := HM3.out
            have h5 := HLF.out
            simp only [List.length_append] at h2
            omega
          have HF := Lib.hid hf
          clear hrd hf
          generalize hfnm : f.nm = fnm at *
          generalize hfbt : f.bits = fbt at *
          generalize hflo : f.low = flo at *
          have HFV := Lib.hid (And.intro hfnm (And.intro hfbt hflo))
          clear hfnm hfbt hflo
          obtain ⟨w5, hw5⟩ : ∃ w5, w5 = wx.alloc (.cells #[.string fnm, .int .i64 fbt, .int .i64 flo] 66) := ⟨_, rfl⟩
          have HB5 : Hid (Below wx.heap.size wx w5) := Lib.hid (by rw [hw5]; exact (Below.refl _ _).alloc (Nat.le_refl _) _)
          have HF5 : Hid (Bk w5 wx.heap.size 66 #[.string fnm, .int .i64 fbt, .int .i64 flo]) := Lib.hid (by rw [hw5]; exact Bk.new _ _ _)
          have HR5 := Lib.hid (HR.out.below HB5.out (by rw [HSZ.out]; exact Nat.le_refl _))
          have HW5 := Lib.hid hw5
          clear hw5
          go_upto_region 10 with fail
          rw [← HW5.out]
          have hbx5 : w.heap.size + 1 ≤ w5.heap.size := by have := HB5.out.size; omega
          clear HW5 p0 p1 p2
          obtain ⟨hf, hhf⟩ : ∃ hf, hf = wx.heap.size := ⟨_, rfl⟩
          rw [← hhf] at HF5 ⊢
          clear hhf
          have e0 : w5.cell? ⟨hf, 0, none⟩ = some (.string fnm) := HF5.out.cell 0
          have e1 : w5.cell? ⟨hf, 1, none⟩ = some (.int .i64 fbt) := HF5.out.cell 1
          have e2 : w5.cell? ⟨hf, 2, none⟩ = some (.int .i64 flo) := HF5.out.cell 2
          have s5 : w5.drew.cell? ⟨hf, 0, none⟩ = some (.string fnm) ∧ w5.drew.cell? ⟨hf, 1, none⟩ = some (.int .i64 fbt) ∧ w5.drew.cell? ⟨hf, 2, none⟩ = some (.int .i64 flo) := ⟨e0, e1, e2⟩
          refine wp_region_E (S := fun wz => wz.cell? ⟨hf, 0, none⟩ = some (.string fnm) ∧ wz.cell? ⟨hf, 1, none⟩ = some (.int .i64 fbt) ∧ wz.cell? ⟨hf, 2, none⟩ = some (.int .i64 flo)) (last := 10) (by kernel_rfl) ?_
          refine wpAnyE_val (i := 0) (v := .slice A4 m4 c4) (d := some 50) rfl rfl (by kernel_rfl) (by kernel_rfl) (by kernel_rfl) (by kernel_rfl) (fun _ _ _ h => h) (Or.inl ⟨by rfl, fun w hS => by (obtain ⟨h0, h1, h2⟩ := hS; go_simp)⟩) s5 ?_
          (try simp only [Act.put, List.setIfInBounds_toArray, List.set_cons_zero, List.set_cons_succ])
          refine wpAnyE_val (i := 1) (v := .pointer (some ⟨hf, 0, none⟩)) (d := some 51) rfl rfl (by kernel_rfl) (by kernel_rfl) (by kernel_rfl) (by kernel_rfl) (fun _ _ _ h => h) (Or.inl ⟨by rfl, fun w hS => by (obtain ⟨h0, h1, h2⟩ := hS; go_simp)⟩) s5 ?_
          (try simp only [Act.put, List.setIfInBounds_toArray, List.set_cons_zero, List.set_cons_succ])
          refine wpAnyE_val (i := 2) (v := .string fnm) (d := some 52) rfl rfl (by kernel_rfl) (by kernel_rfl) (by kernel_rfl) (by kernel_rfl) (fun _ _ _ h => h) (Or.inl ⟨by rfl, fun w hS => by (obtain ⟨h0, h1, h2⟩ := hS; go_simp)⟩) s5 ?_
          (try simp only [Act.put, List.setIfInBounds_toArray, List.set_cons_zero, List.set_cons_succ])
          refine wpAnyE_val (i := 4) (v := .pointer (some ⟨hf, 1, none⟩)) (d := some 54) rfl rfl (by kernel_rfl) (by kernel_rfl) (by kernel_rfl) (by kernel_rfl) (fun _ _ _ h => h) (Or.inl ⟨by rfl, fun w hS => by (obtain ⟨h0, h1, h2⟩ := hS; go_simp)⟩) s5 ?_
          (try simp only [Act.put, List.setIfInBounds_toArray, List.set_cons_zero, List.set_cons_succ])
          refine wpAnyE_val (i := 5) (v := .int .i64 fbt) (d := some 55) rfl rfl (by kernel_rfl) (by kernel_rfl) (by kernel_rfl) (by kernel_rfl) (fun _ _ _ h => h) (Or.inl ⟨by rfl, fun w hS => by (obtain ⟨h0, h1, h2⟩ := hS; go_simp)⟩) s5 ?_
          (try simp only [Act.put, List.setIfInBounds_toArray, List.set_cons_zero, List.set_cons_succ])
          refine wpAnyE_val (i := 6) (v := .pointer (some ⟨hf, 2, none⟩)) (d := some 56) rfl rfl (by kernel_rfl) (by kernel_rfl) (by kernel_rfl) (by kernel_rfl) (fun _ _ _ h => h) (Or.inl ⟨by rfl, fun w hS => by (obtain ⟨h0, h1, h2⟩ := hS; go_simp)⟩) s5 ?_
          (try simp only [Act.put, List.setIfInBounds_toArray, List.set_cons_zero, List.set_cons_succ])
          refine wpAnyE_val (i := 7) (v := .int .i64 flo) (d := some 57) rfl rfl (by kernel_rfl) (by kernel_rfl) (by kernel_rfl) (by kernel_rfl) (fun _ _ _ h => h) (Or.inl ⟨by rfl, fun w hS => by (obtain ⟨h0, h1, h2⟩ := hS; go_simp)⟩) s5 ?_
          (try simp only [Act.put, List.setIfInBounds_toArray, List.set_cons_zero, List.set_cons_succ])
          refine wpAnyE_twoV (i := 3) (j := 8) rfl rfl (by kernel_rfl) rfl rfl ?_ ?_
          · go_simp
            go_at_call 185
            (with_reducible refine (gtextG_any (w.heap.size + 1) m4 c4 A4 zs fnm _ ?ho (by omega) ?hs).mono ?_)
            case ho => (repeat' first | exact HR5.out.1 | refine World.ownsRow.alloc ?_ _ | refine World.ownsRow.drew ?_)
            case hs => (first | omega | (simp; omega))
            rintro e w6 ⟨A6, c6, rfl, hown6, hg6, hat6⟩
            have hF6 : Bk w6 hf 66 #[.string fnm, .int .i64 fbt, .int .i64 flo] := Bk.grown (by repeat' first | exact HF5.out | refine Bk.alloc ?_ _ | refine Bk.drew ?_) hg6 (fun e => own_ne HR5.out.1 HF5.out (by decide) e.symm)
            have HR6 := Lib.hid (HR5.out.text (by rw [HSZ.out]; exact Nat.le_refl _) (by repeat' first | exact Below.refl _ _ | refine Below.drew ?_ | refine Below.alloc ?_ (Nat.le_refl _) _) hown6 hg6)
            refine ⟨⟨hF6.cell 0, hF6.cell 1, hF6.cell 2⟩, ?_⟩
            (try simp only [Act.put, List.setIfInBounds_toArray, List.set_cons_zero, List.set_cons_succ])
            refine wpAnyE_one (i := 8) rfl (by kernel_rfl) rfl ?_
            go_simp
            (try refine ⟨⟨(hF6.alloc _).cell 0, (hF6.alloc _).cell 1, (hF6.alloc _).cell 2⟩, ?_⟩)
            (try simp only [Act.put, List.setIfInBounds_toArray, List.set_cons_zero, List.set_cons_succ])
            refine wpAnyE_if (i := 9) rfl (by kernel_rfl) rfl ?_
            refine step_append_rd rfl (.tmp 53) (.tmp 58) 30 rfl (w.heap.size + 1) 3 i3 (.int .i64 0) 1 8 Try.underlying30 hi3 hz30 hz31 hz32 rfl (by decide) (.slice A6 (m4 + 1 + fnm.size) c6) (m4 + 1 + fnm.size) _ rfl (hown6.alloc _) (w6.heap.size + 1) _ 2 2 [.int .i64 fbt, .int .i64 flo] rfl (Rd.new w6 3 2 1 #[.int .i64 fbt, .int .i64 flo] rfl) ?c1 (m4 + 1 + fnm.size + 2) rfl ?c2 ?c3 ?c4 ?_
            case c1 => simp [Value.oneCell']
            case c2 => unfold maxLen; omega
            case c3 => omega
            case c4 => (have := hg6.size; simp at this; simp; omega)
            intro A7 c7 w7 hown7 hg7
            have hF7 := (hF6.alloc (.cells #[.int .i64 fbt, .int .i64 flo] 3)).grown hg7 (fun e => own_ne hown6 hF6 (by decide) e.symm)
            refine ⟨fun _ => ⟨hF7.cell 0, hF7.cell 1, hF7.cell 2⟩, ?_⟩
            (try simp only [Act.put, List.setIfInBounds_toArray])
            refine wpAnyE_one (i := 10) rfl (by kernel_rfl) rfl ?_
            go_simp
            refine wpAnyE_done (by kernel_rfl) ?_ _
            have HRn := Lib.hid (HR6.out.app (ys := [fbt, flo]) (by rw [HSZ.out]; exact Nat.le_refl _) (by repeat' first | exact Below.refl _ _ | refine Below.drew ?_ | refine Below.alloc ?_ (Nat.le_refl _) _) hown7 hg7 rfl)
            have HZn : Hid (zs ++ textF fnm ++ [fbt, flo] = ys ++ (k.fds.take (j + 1)).flatMap fdN) := Lib.hid (by
              rw [List.take_add_one, HF.out, HZ.out]
              simp only [Option.toList, List.flatMap_append, List.flatMap_cons, List.flatMap_nil, List.append_nil, fdN, HFV.out.1, HFV.out.2.1, HFV.out.2.2, List.append_assoc])
            clear HR6 hown6 hg6 hat6 hF6 hF7 s5 hown7 hg7 e0 e1 e2
            go_wp2_with fail
            go_roundw
            case rel => exact ⟨j + 1, m4 + 1 + fnm.size + 2, c7, A7, _, by omega, by go_num, rfl, HRn, HZn⟩
            case measure => simp [intOf]; omega
          · go_simp
            (try refine ⟨⟨(HF5.out.alloc _).cell 0, (HF5.out.alloc _).cell 1, (HF5.out.alloc _).cell 2⟩, ?_⟩)
            (try simp only [Act.put, List.setIfInBounds_toArray, List.set_cons_zero, List.set_cons_succ])
            refine wpAnyE_one (i := 3) rfl (by kernel_rfl) rfl ?_
            go_simp
            go_at_call 185
            (with_reducible refine (gtextG_any (w.heap.size + 1) m4 c4 A4 zs fnm _ ?ho (by omega) ?hs).mono ?_)
            case ho => (repeat' first | exact HR5.out.1 | refine World.ownsRow.alloc ?_ _ | refine World.ownsRow.drew ?_)
            case hs => (first | omega | (simp; omega))
            rintro e w6 ⟨A6, c6, rfl, hown6, hg6, hat6⟩
            have hF6 : Bk w6 hf 66 #[.string fnm, .int .i64 fbt, .int .i64 flo] := Bk.grown (by repeat' first | exact HF5.out | refine Bk.alloc ?_ _ | refine Bk.drew ?_) hg6 (fun e => own_ne HR5.out.1 HF5.out (by decide) e.symm)
            have HR6 := Lib.hid (HR5.out.text (by rw [HSZ.out]; exact Nat.le_refl _) (by repeat' first | exact Below.refl _ _ | refine Below.drew ?_ | refine Below.alloc ?_ (Nat.le_refl _) _) hown6 hg6)
            have hN6 : Bk w6 w5.heap.size 3 #[.int .i64 fbt, .int .i64 flo] := Bk.grown (by repeat' first | exact Bk.new _ _ _ | refine Bk.drew ?_) hg6 (fun e => by have := (HR5.out.1.lt _ e.symm).2; omega)
            refine ⟨⟨hF6.cell 0, hF6.cell 1, hF6.cell 2⟩, ?_⟩
            (try simp only [Act.put, List.setIfInBounds_toArray, List.set_cons_zero, List.set_cons_succ])
            refine wpAnyE_if (i := 9) rfl (by kernel_rfl) rfl ?_
            refine step_append_rd rfl (.tmp 53) (.tmp 58) 30 rfl (w.heap.size + 1) 3 i3 (.int .i64 0) 1 8 Try.underlying30 hi3 hz30 hz31 hz32 rfl (by decide) (.slice A6 (m4 + 1 + fnm.size) c6) (m4 + 1 + fnm.size) _ rfl hown6 w6.heap.size _ 2 2 [.int .i64 fbt, .int .i64 flo] rfl (Rd.ofBkV hN6 rfl) ?c1 (m4 + 1 + fnm.size + 2) rfl ?c2 ?c3 ?c4 ?_
            case c1 => simp [Value.oneCell']
            case c2 => unfold maxLen; omega
            case c3 => omega
            case c4 => (have := hg6.size; simp at this; simp; omega)
            intro A7 c7 w7 hown7 hg7
            have hF7 := hF6.grown hg7 (fun e => own_ne hown6 hF6 (by decide) e.symm)
            refine ⟨fun _ => ⟨hF7.cell 0, hF7.cell 1, hF7.cell 2⟩, ?_⟩
            (try simp only [Act.put, List.setIfInBounds_toArray])
            refine wpAnyE_one (i := 10) rfl (by kernel_rfl) rfl ?_
            go_simp
            refine wpAnyE_done (by kernel_rfl) ?_ _
            have HRn := Lib.hid (HR6.out.app (ys := [fbt, flo]) (by rw [HSZ.out]; exact Nat.le_refl _) (by repeat' first | exact Below.refl _ _ | refine Below.drew ?_ | refine Below.alloc ?_ (Nat.le_refl _) _) hown7 hg7 rfl)
            have HZn : Hid (zs ++ textF fnm ++ [fbt, flo] = ys ++ (k.fds.take (j + 1)).flatMap fdN) := Lib.hid (by
              rw [List.take_add_one, HF.out, HZ.out]
              simp only [Option.toList, List.flatMap_append, List.flatMap_cons, List.flatMap_nil, List.append_nil, fdN, HFV.out.1, HFV.out.2.1, HFV.out.2.2, List.append_assoc])
            clear HR6 hown6 hg6 hat6 hF6 hF7 s5 hown7 hg7 e0 e1 e2
            go_wp2_with fail
            go_roundw
            case rel => exact ⟨j + 1, m4 + 1 + fnm.size + 2, c7, A7, _, by omega, by go_num, rfl, HRn, HZn⟩
            case measure => simp [intOf]; omega
        · obtain rfl : j = fn := by omega
          have HZ2 : Hid (zs = [Tk, (kn : Int)] ++ (p.ks.take (i + 1)).flatMap kdN) := Lib.hid (by
            have h1 := HKO.out.len
            rw [HKV.out.2.2.1] at h1
            rw [HZ.out, HYS.out, HE.out, List.take_add_one, HKP.out, List.take_of_length_le (Nat.le_of_eq h1.symm)]
            simp only [Option.toList, List.flatMap_append, List.flatMap_cons, List.flatMap_nil, List.append_nil, kdN, Kd.p, HKV.out.1, h1, List.append_assoc])
          clear HZ HYS
          go_wp2_with fail
          go_roundw
          case rel => exact ⟨i + 1, m4, c4, A4, zs, by omega, by go_num, rfl, HR, HZ2⟩
          case measure => simp [intOf]; omega
    · obtain rfl : i = kn := by omega
      have HA : Hid (xs = flatA Tk p) := Lib.hid (by
        have h1 : p.ks.length = i := by rw [HP.out.1, List.length_map]; exact HKN.out.symm
        rw [HE.out, List.take_of_length_le (by omega)]
        unfold flatA
        rw [h1])
      have hm2 : m ≤ 2 + L1 := by
        have h1 := HR.out.2.1
        have h2 := HL.out.1
        rw [HA.out] at h1
        unfold flatA at h1
        simp only [List.length_append, List.length_cons, List.length_nil] at h1
        omega
      clear HE
      have hbk := HX0.out.below HR.out.2.2 (by omega)
      have d2 : wo.cell? ⟨w.heap.size, 2, none⟩ = some (.slice gA gn gc) := hbk.cell 2
      clear hbk
      go_wp2_with
        (at_builtin
         go_must (refine wpList_append_one _ rfl (.tmp 62) (.tmp 67) _ rfl (w.heap.size + 1) 3 i3 (.int .i64 0) 1 8 Try.underlying30 hi3 hz30 hz31 hz32 rfl (by decide) (.slice A m c) (m) _ rfl (HR.out.1.alloc _) wo.heap.size 1 3 #[.int .i64 gn] rfl (Bk.new _ _ _) rfl ?c1 (m + 1) rfl ?c2 ?c3 ?c4 ?_)
         case c1 => simp [Value.oneCell']
         case c2 => unfold maxLen; omega
         case c3 => omega
         case c4 => simp; omega
         intro g1 c1 w1 hown1 hg1 hat1)
      have HR1 := Lib.hid (HR.out.app (ys := [(gn : Int)]) (by rw [HSZ.out]; exact Nat.le_refl _) ((Below.refl _ _).alloc (Nat.le_refl _) _) hown1 hg1 rfl)
      clear hown1 hg1 hat1 d2 HR
      have hbk1 := HX0.out.below HR1.out.2.2 (by omega)
      have HBX := Lib.hid hbk1
      have d2 : w1.cell? ⟨w.heap.size, 2, none⟩ = some (.slice gA gn gc) := hbk1.cell 2
      have d3 : w1.cell? ⟨w.heap.size, 3, none⟩ = some (.slice iA im ic) := hbk1.cell 3
      have d4 : w1.cell? ⟨w.heap.size, 4, none⟩ = some (.slice cA cn cc) := hbk1.cell 4
      clear hbk1
      have hbw1 : w.heap.size + 1 ≤ w1.heap.size := by have := HR1.out.2.2.size; have := HSZ.out; omega
      have hrd : Rd w1 B 1 gA gn (gens.map (Value.int .i64)) := HGS.out.rd.below (HR1.out.2.2.mono (by omega))
      have HRD := Lib.hid hrd
      clear hrd
      have hone : ∀ u ∈ gens.map (Value.int .i64), u.oneCell' = true := fun u hu => by
        obtain ⟨z, _, rfl⟩ := List.mem_map.1 hu
        rfl
      have HON := Lib.hid hone
      clear hone
      have s5 : w1.drew.cell? ⟨w.heap.size, 2, none⟩ = some (.slice gA gn gc) ∧ w1.drew.cell? ⟨w.heap.size, 3, none⟩ = some (.slice iA im ic) ∧ w1.drew.cell? ⟨w.heap.size, 4, none⟩ = some (.slice cA cn cc) := ⟨d2, d3, d4⟩
      go_cut [3] from 69 to 79 (fun rv wz => ∃ (A4 : Option Addr) (c4 : Nat), rv = .slice A4 (m + 1 + gn + 1) c4 ∧ Hid (RowT (w.heap.size + 1) W0 wz A4 (m + 1 + gn + 1) c4 (flatB Tk p)))
      case first =>
        refine wp_region_E (S := fun wz => wz.cell? ⟨w.heap.size, 2, none⟩ = some (.slice gA gn gc) ∧ wz.cell? ⟨w.heap.size, 3, none⟩ = some (.slice iA im ic) ∧ wz.cell? ⟨w.heap.size, 4, none⟩ = some (.slice cA cn cc)) (last := 11) (by kernel_rfl) ?_
        refine wpAnyE_val (i := 0) (v := .slice (some ⟨g1, 0, none⟩) (m + 1) c1) (d := some 69) rfl rfl (by kernel_rfl) (by kernel_rfl) (by kernel_rfl) (by kernel_rfl) (fun _ _ _ h => h) (Or.inl ⟨by rfl, fun w hS => by (obtain ⟨h0, h1, h2⟩ := hS; go_simp)⟩) s5 ?_
        (try simp only [Act.put, List.setIfInBounds_toArray, List.set_cons_zero, List.set_cons_succ])
        refine wpAnyE_val (i := 1) (v := .pointer (some ⟨w.heap.size, 1, none⟩)) (d := some 70) rfl rfl (by kernel_rfl) (by kernel_rfl) (by kernel_rfl) (by kernel_rfl) (fun _ _ _ h => h) (Or.inl ⟨by rfl, fun w hS => by (obtain ⟨h0, h1, h2⟩ := hS; go_simp)⟩) s5 ?_
        (try simp only [Act.put, List.setIfInBounds_toArray, List.set_cons_zero, List.set_cons_succ])
        refine wpAnyE_val (i := 2) (v := .pointer (some ⟨w.heap.size, 2, none⟩)) (d := some 71) rfl rfl (by kernel_rfl) (by kernel_rfl) (by kernel_rfl) (by kernel_rfl) (fun _ _ _ h => h) (Or.inl ⟨by rfl, fun w hS => by (obtain ⟨h0, h1, h2⟩ := hS; go_simp)⟩) s5 ?_
        (try simp only [Act.put, List.setIfInBounds_toArray, List.set_cons_zero, List.set_cons_succ])
        refine wpAnyE_val (i := 3) (v := .slice gA gn gc) (d := some 72) rfl rfl (by kernel_rfl) (by kernel_rfl) (by kernel_rfl) (by kernel_rfl) (fun _ _ _ h => h) (Or.inl ⟨by rfl, fun w hS => by (obtain ⟨h0, h1, h2⟩ := hS; go_simp)⟩) s5 ?_
        (try simp only [Act.put, List.setIfInBounds_toArray, List.set_cons_zero, List.set_cons_succ])
        refine wpAnyE_val (i := 5) (v := .pointer (some ⟨w.heap.size, 1, none⟩)) (d := some 74) rfl rfl (by kernel_rfl) (by kernel_rfl) (by kernel_rfl) (by kernel_rfl) (fun _ _ _ h => h) (Or.inl ⟨by rfl, fun w hS => by (obtain ⟨h0, h1, h2⟩ := hS; go_simp)⟩) s5 ?_
        (try simp only [Act.put, List.setIfInBounds_toArray, List.set_cons_zero, List.set_cons_succ])
        refine wpAnyE_val (i := 6) (v := .pointer (some ⟨w.heap.size, 3, none⟩)) (d := some 75) rfl rfl (by kernel_rfl) (by kernel_rfl) (by kernel_rfl) (by kernel_rfl) (fun _ _ _ h => h) (Or.inl ⟨by rfl, fun w hS => by (obtain ⟨h0, h1, h2⟩ := hS; go_simp)⟩) s5 ?_
        (try simp only [Act.put, List.setIfInBounds_toArray, List.set_cons_zero, List.set_cons_succ])
        refine wpAnyE_val (i := 7) (v := .slice iA im ic) (d := some 76) rfl rfl (by kernel_rfl) (by kernel_rfl) (by kernel_rfl) (by kernel_rfl) (fun _ _ _ h => h) (Or.inl ⟨by rfl, fun w hS => by (obtain ⟨h0, h1, h2⟩ := hS; go_simp)⟩) s5 ?_
        (try simp only [Act.put, List.setIfInBounds_toArray, List.set_cons_zero, List.set_cons_succ])
        refine wpAnyE_val (i := 8) (v := .int .i64 im) (d := some 77) rfl rfl (by kernel_rfl) (by kernel_rfl) (by kernel_rfl) (by kernel_rfl) (fun _ _ _ h => h) (Or.inl ⟨by rfl, fun w hS => by (obtain ⟨h0, h1, h2⟩ := hS; go_simp)⟩) s5 ?_
        (try simp only [Act.put, List.setIfInBounds_toArray, List.set_cons_zero, List.set_cons_succ])
        refine wpAnyE_twoV (i := 4) (j := 9) rfl rfl (by kernel_rfl) rfl rfl ?_ ?_
        · refine of_wanted (ops := #[]) rfl ?_
          refine step_append_rd rfl (.tmp 69) (.tmp 72) 30 rfl (w.heap.size + 1) 3 i3 (.int .i64 0) 1 8 Try.underlying30 hi3 hz30 hz31 hz32 rfl (by decide) (.slice (some ⟨g1, 0, none⟩) (m + 1) c1) (m + 1) _ rfl HR1.out.1 B gA gn gc (gens.map (Value.int .i64)) rfl HRD.out ?c1 (m + 1 + gn) rfl ?c2 ?c3 ?c4 ?_
          case c1 => first | exact HON.out | simp [Value.oneCell']
          case c2 => unfold maxLen; omega
          case c3 => omega
          case c4 => first | omega | (simp; omega)
          intro A3 c3 w3 hown3 hg3
          have HR3 := Lib.hid (HR1.out.app (ys := gens) (by rw [HSZ.out]; exact Nat.le_refl _) ((Below.refl _ _).drew) hown3 hg3 rfl)
          have hB3 := HX0.out.below HR3.out.2.2 (by omega)
          refine ⟨fun _ => ⟨hB3.cell 2, hB3.cell 3, hB3.cell 4⟩, ?_⟩
          (try simp only [Act.put, List.setIfInBounds_toArray])
          refine wpAnyE_one (i := 9) rfl (by kernel_rfl) rfl ?_
          go_simp
          (try refine ⟨⟨(hB3.alloc _).cell 2, (hB3.alloc _).cell 3, (hB3.alloc _).cell 4⟩, ?_⟩)
          (try simp only [Act.put, List.setIfInBounds_toArray, List.set_cons_zero, List.set_cons_succ])
          refine wpAnyE_if (i := 10) rfl (by kernel_rfl) rfl ?_
          refine step_append_rd rfl (.tmp 73) (.tmp 78) 30 rfl (w.heap.size + 1) 3 i3 (.int .i64 0) 1 8 Try.underlying30 hi3 hz30 hz31 hz32 rfl (by decide) (.slice A3 (m + 1 + gn) c3) (m + 1 + gn) _ rfl (HR3.out.1.alloc _) (w3.heap.size + 1) _ 1 1 [.int .i64 im] rfl (Rd.new w3 3 1 1 #[.int .i64 im] rfl) ?c1 (m + 1 + gn + 1) rfl ?c2 ?c3 ?c4 ?_
          case c1 => first | exact HON.out | simp [Value.oneCell']
          case c2 => unfold maxLen; omega
          case c3 => omega
          case c4 => have := HR3.out.2.2.size; have := HSZ.out; first | omega | (simp; omega)
          intro A4 c4 w4 hown4 hg4
          have hB4 := (hB3.alloc (.cells #[.int .i64 im] 3)).grown hg4 (fun e => own_ne HR3.out.1 hB3 (by decide) e.symm)
          refine ⟨fun _ => ⟨hB4.cell 2, hB4.cell 3, hB4.cell 4⟩, ?_⟩
          (try simp only [Act.put, List.setIfInBounds_toArray])
          refine wpAnyE_one (i := 11) rfl (by kernel_rfl) rfl ?_
          go_simp
          refine wpAnyE_done (by kernel_rfl) ?_ _
          have HR4 : Hid (RowT (w.heap.size + 1) W0 w4 A4 (m + 1 + gn + 1) c4 (flatB Tk p)) := Lib.hid ((HR3.out.app (ys := [(im : Int)]) (by rw [HSZ.out]; exact Nat.le_refl _) ((Below.refl _ _).alloc (Nat.le_refl _) _) hown4 hg4 rfl).eq (by
            have h1 : im = its.length := HIS.out.len
            have h2 : gn = gens.length := HGS.out.len
            unfold flatB
            rw [HA.out, HP.out.2.1, HP.out.2.2, List.length_map, h1, h2]))
          go_wp2_with fail
          go_meet
          case rel => exact ⟨A4, c4, rfl, HR4⟩
        · go_simp
          (try refine ⟨⟨(HBX.out.alloc _).cell 2, (HBX.out.alloc _).cell 3, (HBX.out.alloc _).cell 4⟩, ?_⟩)
          (try simp only [Act.put, List.setIfInBounds_toArray, List.set_cons_zero, List.set_cons_succ])
          refine wpAnyE_one (i := 4) rfl (by kernel_rfl) rfl ?_
          refine of_wanted (ops := #[]) rfl ?_
          refine step_append_rd rfl (.tmp 69) (.tmp 72) 30 rfl (w.heap.size + 1) 3 i3 (.int .i64 0) 1 8 Try.underlying30 hi3 hz30 hz31 hz32 rfl (by decide) (.slice (some ⟨g1, 0, none⟩) (m + 1) c1) (m + 1) _ rfl (HR1.out.1.alloc _) B gA gn gc (gens.map (Value.int .i64)) rfl (HRD.out.keep (fun b hb => Below.heap_alloc _ _ _ (by omega))) ?c1 (m + 1 + gn) rfl ?c2 ?c3 ?c4 ?_
          case c1 => first | exact HON.out | simp [Value.oneCell']
          case c2 => unfold maxLen; omega
          case c3 => omega
          case c4 => first | omega | (simp; omega)
          intro A3 c3 w3 hown3 hg3
          have HR3 := Lib.hid (HR1.out.app (ys := gens) (by rw [HSZ.out]; exact Nat.le_refl _) ((Below.refl _ _).alloc (Nat.le_refl _) (.cells #[.int .i64 im] 3)).drew hown3 hg3 rfl)
          have hB3 := HX0.out.below HR3.out.2.2 (by omega)
          have hN3 : Bk w3 w1.heap.size 3 #[.int .i64 im] := Bk.grown (Bk.drew (Bk.new w1 3 #[.int .i64 im])) hg3 (fun e => by have := (HR1.out.1.lt _ e.symm).2; omega)
          refine ⟨fun _ => ⟨hB3.cell 2, hB3.cell 3, hB3.cell 4⟩, ?_⟩
          (try simp only [Act.put, List.setIfInBounds_toArray])
          refine wpAnyE_if (i := 10) rfl (by kernel_rfl) rfl ?_
          refine step_append_rd rfl (.tmp 73) (.tmp 78) 30 rfl (w.heap.size + 1) 3 i3 (.int .i64 0) 1 8 Try.underlying30 hi3 hz30 hz31 hz32 rfl (by decide) (.slice A3 (m + 1 + gn) c3) (m + 1 + gn) _ rfl HR3.out.1 w3.heap.size _ 1 1 [.int .i64 im] rfl (Rd.ofBkV hN3 rfl) ?c1 (m + 1 + gn + 1) rfl ?c2 ?c3 ?c4 ?_
          case c1 => first | exact HON.out | simp [Value.oneCell']
          case c2 => unfold maxLen; omega
          case c3 => omega
          case c4 => have := HR3.out.2.2.size; have := HSZ.out; first | omega | (simp; omega)
          intro A4 c4 w4 hown4 hg4
          have hB4 := hB3.grown hg4 (fun e => own_ne HR3.out.1 hB3 (by decide) e.symm)
          refine ⟨fun _ => ⟨hB4.cell 2, hB4.cell 3, hB4.cell 4⟩, ?_⟩
          (try simp only [Act.put])
          refine wpAnyE_one (i := 11) rfl (by kernel_rfl) rfl ?_
          go_simp
          refine wpAnyE_done (by kernel_rfl) ?_ _
          have HR4 : Hid (RowT (w.heap.size + 1) W0 w4 A4 (m + 1 + gn + 1) c4 (flatB Tk p)) := Lib.hid ((HR3.out.app (ys := [(im : Int)]) (by rw [HSZ.out]; exact Nat.le_refl _) (Below.refl _ _) hown4 hg4 rfl).eq (by
            have h1 : im = its.length := HIS.out.len
            have h2 : gn = gens.length := HGS.out.len
            unfold flatB
            rw [HA.out, HP.out.2.1, HP.out.2.2, List.length_map, h1, h2]))
          go_wp2_with fail
          go_meet
          case rel => exact ⟨A4, c4, rfl, HR4⟩
      case rest =>
        obtain ⟨A4, c4, rfl, HR4⟩ := hcut
        clear s5 d2 d3 d4 HRD HR1 HON HBX
        have hbk := HX0.out.below HR4.out.2.2 (by omega)
        have d3 : wc.cell? ⟨w.heap.size, 3, none⟩ = some (.slice iA im ic) := hbk.cell 3
        clear hbk
        obtain ⟨m5, hm5⟩ : ∃ m5, m5 = m + 1 + gn + 1 := ⟨_, rfl⟩
        rw [← hm5] at HR4 ⊢
        have hm5' : m5 ≤ 2 + L1 + 1 + gn + 1 := by omega
        clear hm5
        go_wp2_with fail
        go_loopw [3, 84] (fun rv iv wr => ∃ (k m c : Nat) (A : Option Addr) (zs : List Int), k ≤ im ∧ iv = .int .i64 k ∧ rv = .slice A m c ∧ Hid (RowT (w.heap.size + 1) W0 wr A m c zs) ∧ Hid (zs = flatB Tk p ++ (p.its.take k).flatMap itN)) (fun _ iv _ => im - (intOf iv).toNat)
        case atStart => exact ⟨0, m5, c4, A4, _, Nat.zero_le _, rfl, rfl, HR4, Lib.hid (by simp)⟩
        case round =>
          have HM5 : Hid (m5 = (flatB Tk p).length) := Lib.hid HR4.out.2.1
          clear HR4 d3
          obtain ⟨k, m, c, A, zs, hk, rfl, rfl, HR, HZ⟩ := hrel
          obtain ⟨wo, rfl⟩ : ∃ z, z = wr := ⟨_, rfl⟩
          have hbw : w.heap.size + 1 ≤ wo.heap.size := by have := HR.out.2.2.size; have := HSZ.out; omega
          by_cases hlt : k < im
          · obtain ⟨it, hit⟩ : ∃ it, its[k]? = some it := ⟨_, List.getElem?_eq_getElem (by have := HIS.out.len; omega)⟩
            have hiso := HIS.out.below (HR.out.2.2.mono (by omega))
            have hio := HIS.out.ok it (List.mem_of_getElem? hit)
            obtain ⟨b, o, rfl, hbb, q0, q1, q2⟩ := hiso.rd.it hlt hit
            have hip : p.its[k]? = some it.p := by rw [HP.out.2.2, List.getElem?_map, hit]; rfl
            have hbd : m + 3 + ((it.cms.map Cm.p).flatMap cmN).length ≤ 2 + L1 + 1 + gn + 1 + L3 := by
              have h1 := take_flat itN hip
              have h2 := HR.out.2.1
              rw [HZ.out] at h2
              have h3 : (itN it.p).length = 3 + ((it.cms.map Cm.p).flatMap cmN).length := by
                unfold itN It.p
                simp only [List.length_append, List.length_cons, List.length_nil]
              have h4 := HM5.out
              have h5 := HL.out.2.1
              simp only [List.length_append] at h2
              omega
            obtain ⟨LC, hLC⟩ : ∃ z, z = ((it.cms.map Cm.p).flatMap cmN).length := ⟨_, rfl⟩
            rw [← hLC] at hbd
            have hcl : it.n ≤ LC := by rw [hLC, hio.cs.len, ← List.length_map (f := Cm.p)]; exact len_flat cmN cmN_pos _
            have HLC := Lib.hid hLC
            clear hLC
            have HIP := Lib.hid hip
            obtain ⟨w1, hw1⟩ : ∃ w1, w1 = wo.alloc (.cells #[.int .i64 it.e, .int .i64 it.g, .slice it.A it.n it.c] 147) := ⟨_, rfl⟩
            have HB1 : Hid (Below wo.heap.size wo w1) := Lib.hid (by rw [hw1]; exact (Below.refl _ _).alloc (Nat.le_refl _) _)
            have HK1 : Hid (Bk w1 wo.heap.size 147 #[.int .i64 it.e, .int .i64 it.g, .slice it.A it.n it.c]) := Lib.hid (by rw [hw1]; exact Bk.new _ _ _)
            have HIO := Lib.hid hio.cs
            clear hiso hio hip hit
            generalize hie : it.e = ie at *
            generalize hig : it.g = ig at *
            generalize hcA : it.A = cA at *
            generalize hcn : it.n = cn at *
            generalize hcc : it.c = cc at *
            have HIV := Lib.hid (And.intro hie (And.intro hig (And.intro hcA (And.intro hcn hcc))))
            clear hie hig hcA hcn hcc
            have e0 : w1.cell? ⟨wo.heap.size, 0, none⟩ = some (.int .i64 ie) := HK1.out.cell 0
            have e1 : w1.cell? ⟨wo.heap.size, 1, none⟩ = some (.int .i64 ig) := HK1.out.cell 1
            have e2 : w1.cell? ⟨wo.heap.size, 2, none⟩ = some (.slice cA cn cc) := HK1.out.cell 2
            go_upto_region 18 with fail
            rw [← hw1]
            clear hw1 q0 q1 q2
            have HR1 := Lib.hid (HR.out.below HB1.out (by rw [HSZ.out]; exact Nat.le_refl _))
            have hbw1 : w.heap.size + 1 ≤ w1.heap.size := by have := HB1.out.size; omega
            go_wp2_with
              (at_builtin
               go_must (refine wpList_append_rd _ rfl (.tmp 88) (.tmp 98) _ rfl (w.heap.size + 1) 3 i3 (.int .i64 0) 1 8 Try.underlying30 hi3 hz30 hz31 hz32 rfl (by decide) (.slice A m c) m _ rfl (HR1.out.1.alloc _) (w1.heap.size + 1) _ 3 3 [.int .i64 ie, .int .i64 ig, .int .i64 cn] rfl (Rd.new w1 3 3 1 #[.int .i64 ie, .int .i64 ig, .int .i64 cn] rfl) ?c1 ?c2 ?c3 ?c4 ?_)
               case c1 => simp [Value.oneCell']
               case c2 => unfold maxLen; omega
               case c3 => omega
               case c4 => simp; omega
               intro A3 c3 w3 hown3 hg3 hat3
               have hbk3 := HR1.out.box HK1.out (by decide) ((Below.refl _ _).alloc (Nat.le_refl _) _) hg3
               have f3 : w3.cell? ⟨wo.heap.size, 2, none⟩ = some (.slice cA cn cc) := hbk3.cell 2)
            have HR3 := Lib.hid (HR1.out.app (ys := [ie, ig, (cn : Int)]) (by rw [HSZ.out]; exact Nat.le_refl _) ((Below.refl _ _).alloc (Nat.le_refl _) _) hown3 hg3 rfl)
            clear hown3 hg3 hat3 hbk3 f3 e0 e1 e2 HK1 HB1 HR1 HR
            obtain ⟨ys, hys⟩ : ∃ ys, ys = zs ++ [ie, ig, (cn : Int)] := ⟨_, rfl⟩
            rw [← hys] at HR3
            have HYS := Lib.hid hys
            clear hys
            go_loopw [3, 103] (fun rv jv wx => ∃ (j m4 c4 : Nat) (A4 : Option Addr) (us : List Int), j ≤ cn ∧ jv = .int .i64 j ∧ rv = .slice A4 m4 c4 ∧ Hid (RowT (w.heap.size + 1) W0 wx A4 m4 c4 us) ∧ Hid (us = ys ++ ((it.cms.map Cm.p).take j).flatMap cmN)) (fun _ jv _ => cn - (intOf jv).toNat)
            case atStart => exact ⟨0, m + 3, c3, A3, ys, Nat.zero_le _, rfl, rfl, HR3, Lib.hid (by simp)⟩
            case round =>
              have HM3 : Hid (m + 3 = ys.length) := Lib.hid HR3.out.2.1
              clear HR3
              obtain ⟨j, m4, c4, A4, us, hj, rfl, rfl, HR, HU⟩ := hrel
              obtain ⟨wx, rfl⟩ : ∃ z, z = wr := ⟨_, rfl⟩
              have hbx : w.heap.size + 1 ≤ wx.heap.size := by have := HR.out.2.2.size; have := HSZ.out; omega
              by_cases hjl : j < cn
              · obtain ⟨q, hq⟩ : ∃ q, it.cms[j]? = some q := ⟨_, List.getElem?_eq_getElem (by have := HIO.out.len; omega)⟩
                have hco := HIO.out.below (HR.out.2.2.mono (by omega))
                have hqo := hco.ok q (List.mem_of_getElem? hq)
                obtain ⟨fb, fo, rfl, hfb, p0, p1⟩ := hco.rd.cm hjl hq
                have hv8 : m4 + 2 + q.n ≤ 2 + L1 + 1 + gn + 1 + L3 := by
                  have hqp : (it.cms.map Cm.p)[j]? = some q.p := by rw [List.getElem?_map, hq]; rfl
                  have h1 := take_flat cmN hqp
                  have h2 := HR.out.2.1
                  rw [HU.out] at h2
                  have h3 : (cmN q.p).length = 2 + q.n := by
                    unfold cmN Cm.p
                    simp only [List.length_append, List.length_cons, List.length_nil, hqo.len]
                  have h4 := HM3.out
                  have h5 := HLC.out
                  simp only [List.length_append] at h2
                  omega
                have HRD : Hid (Rd wx B 1 q.A q.n (q.vals.map (Value.int .i64))) := Lib.hid hqo.rd
                have HLEN := Lib.hid hqo.len
                have HQ := Lib.hid hq
                have hone : ∀ u ∈ q.vals.map (Value.int .i64), u.oneCell' = true := fun u hu => by
                  obtain ⟨z, _, rfl⟩ := List.mem_map.1 hu
                  rfl
                have HON := Lib.hid hone
                clear hco hqo hq hone
                generalize hqk : q.k = qk at *
                generalize hqA : q.A = qA at *
                generalize hqn : q.n = qn at *
                generalize hqc : q.c = qc at *
                have HQV := Lib.hid (And.intro hqk (And.intro hqA (And.intro hqn hqc)))
                clear hqk hqA hqn hqc
                obtain ⟨w5, hw5⟩ : ∃ w5, w5 = wx.alloc (.cells #[.int .i64 qk, .slice qA qn qc] 166) := ⟨_, rfl⟩
                have HB5 : Hid (Below wx.heap.size wx w5) := Lib.hid (by rw [hw5]; exact (Below.refl _ _).alloc (Nat.le_refl _) _)
                have HF5 : Hid (Bk w5 wx.heap.size 166 #[.int .i64 qk, .slice qA qn qc]) := Lib.hid (by rw [hw5]; exact Bk.new _ _ _)
                have HR5 := Lib.hid (HR.out.below HB5.out (by rw [HSZ.out]; exact Nat.le_refl _))
                have HRD5 := Lib.hid (HRD.out.below (HB5.out.mono (by omega)))
                have HW5 := Lib.hid hw5
                clear hw5 HRD
                go_upto_region 22 with fail
                rw [← HW5.out]
                have hbx5 : w.heap.size + 1 ≤ w5.heap.size := by have := HB5.out.size; omega
                clear HW5 p0 p1
                obtain ⟨hf, hhf⟩ : ∃ hf, hf = wx.heap.size := ⟨_, rfl⟩
                rw [← hhf] at HF5 ⊢
                clear hhf
                have s5 : w5.drew.cell? ⟨hf, 0, none⟩ = some (.int .i64 qk) ∧ w5.drew.cell? ⟨hf, 1, none⟩ = some (.slice qA qn qc) := ⟨HF5.out.cell 0, HF5.out.cell 1⟩
                refine wp_region_E (S := fun wz => wz.cell? ⟨hf, 0, none⟩ = some (.int .i64 qk) ∧ wz.cell? ⟨hf, 1, none⟩ = some (.slice qA qn qc)) (last := 11) (by kernel_rfl) ?_
                refine wpAnyE_val (i := 0) (v := .slice A4 m4 c4) (d := some 107) rfl rfl (by kernel_rfl) (by kernel_rfl) (by kernel_rfl) (by kernel_rfl) (fun _ _ _ h => h) (Or.inl ⟨by rfl, fun w hS => by (obtain ⟨h0, h1⟩ := hS; go_simp)⟩) s5 ?_
                (try simp only [Act.put, List.setIfInBounds_toArray, List.set_cons_zero, List.set_cons_succ])
                refine wpAnyE_val (i := 1) (v := .pointer (some ⟨hf, 0, none⟩)) (d := some 108) rfl rfl (by kernel_rfl) (by kernel_rfl) (by kernel_rfl) (by kernel_rfl) (fun _ _ _ h => h) (Or.inl ⟨by rfl, fun w hS => by (obtain ⟨h0, h1⟩ := hS; go_simp)⟩) s5 ?_
                (try simp only [Act.put, List.setIfInBounds_toArray, List.set_cons_zero, List.set_cons_succ])
                refine wpAnyE_val (i := 2) (v := .int .i64 qk) (d := some 109) rfl rfl (by kernel_rfl) (by kernel_rfl) (by kernel_rfl) (by kernel_rfl) (fun _ _ _ h => h) (Or.inl ⟨by rfl, fun w hS => by (obtain ⟨h0, h1⟩ := hS; go_simp)⟩) s5 ?_
                (try simp only [Act.put, List.setIfInBounds_toArray, List.set_cons_zero, List.set_cons_succ])
                refine wpAnyE_val (i := 3) (v := .pointer (some ⟨hf, 1, none⟩)) (d := some 110) rfl rfl (by kernel_rfl) (by kernel_rfl) (by kernel_rfl) (by kernel_rfl) (fun _ _ _ h => h) (Or.inl ⟨by rfl, fun w hS => by (obtain ⟨h0, h1⟩ := hS; go_simp)⟩) s5 ?_
                (try simp only [Act.put, List.setIfInBounds_toArray, List.set_cons_zero, List.set_cons_succ])
                refine wpAnyE_val (i := 4) (v := .slice qA qn qc) (d := some 111) rfl rfl (by kernel_rfl) (by kernel_rfl) (by kernel_rfl) (by kernel_rfl) (fun _ _ _ h => h) (Or.inl ⟨by rfl, fun w hS => by (obtain ⟨h0, h1⟩ := hS; go_simp)⟩) s5 ?_
                (try simp only [Act.put, List.setIfInBounds_toArray, List.set_cons_zero, List.set_cons_succ])
                refine wpAnyE_val (i := 5) (v := .int .i64 qn) (d := some 112) rfl rfl (by kernel_rfl) (by kernel_rfl) (by kernel_rfl) (by kernel_rfl) (fun _ _ _ h => h) (Or.inl ⟨by rfl, fun w hS => by (obtain ⟨h0, h1⟩ := hS; go_simp)⟩) s5 ?_
                (try simp only [Act.put, List.setIfInBounds_toArray, List.set_cons_zero, List.set_cons_succ])
                refine wpAnyE_val (i := 8) (v := .pointer (some ⟨hf, 1, none⟩)) (d := some 115) rfl rfl (by kernel_rfl) (by kernel_rfl) (by kernel_rfl) (by kernel_rfl) (fun _ _ _ h => h) (Or.inl ⟨by rfl, fun w hS => by (obtain ⟨h0, h1⟩ := hS; go_simp)⟩) s5 ?_
                (try simp only [Act.put, List.setIfInBounds_toArray, List.set_cons_zero, List.set_cons_succ])
                refine wpAnyE_val (i := 9) (v := .slice qA qn qc) (d := some 116) rfl rfl (by kernel_rfl) (by kernel_rfl) (by kernel_rfl) (by kernel_rfl) (fun _ _ _ h => h) (Or.inl ⟨by rfl, fun w hS => by (obtain ⟨h0, h1⟩ := hS; go_simp)⟩) s5 ?_
                (try simp only [Act.put, List.setIfInBounds_toArray, List.set_cons_zero, List.set_cons_succ])
                refine wpAnyE_one (i := 6) rfl (by kernel_rfl) rfl ?_
                go_simp
                (try refine ⟨⟨(HF5.out.alloc _).cell 0, (HF5.out.alloc _).cell 1⟩, ?_⟩)
                (try simp only [Act.put, List.setIfInBounds_toArray, List.set_cons_zero, List.set_cons_succ])
                refine wpAnyE_if (i := 7) rfl (by kernel_rfl) rfl ?_
                refine step_append_rd rfl (.tmp 107) (.tmp 113) 30 rfl (w.heap.size + 1) 3 i3 (.int .i64 0) 1 8 Try.underlying30 hi3 hz30 hz31 hz32 rfl (by decide) (.slice A4 m4 c4) m4 _ rfl (HR5.out.1.alloc _) (w5.heap.size + 1) _ 2 2 [.int .i64 qk, .int .i64 qn] rfl (Rd.new w5 3 2 1 #[.int .i64 qk, .int .i64 qn] rfl) ?c1 (m4 + 2) rfl ?c2 ?c3 ?c4 ?_
                case c1 => simp [Value.oneCell']
                case c2 => unfold maxLen; omega
                case c3 => omega
                case c4 => simp; omega
                intro A6 c6 w6 hown6 hg6
                have HR6 := Lib.hid (HR5.out.app (ys := [qk, (qn : Int)]) (by rw [HSZ.out]; exact Nat.le_refl _) ((Below.refl _ _).alloc (Nat.le_refl _) (.cells #[.int .i64 qk, .int .i64 qn] 3)).drew hown6 hg6 rfl)
                have hF6 := HR5.out.box HF5.out (by decide) ((Below.refl _ _).alloc (Nat.le_refl _) (.cells #[.int .i64 qk, .int .i64 qn] 3)).drew hg6
                have HRD6 := Lib.hid (HRD5.out.below ((((Below.refl _ _).alloc (Nat.le_refl _) (.cells #[.int .i64 qk, .int .i64 qn] 3)).drew.mono (Nat.le_trans hB (by omega))).grown hg6 (by show B ≤ (w5.alloc _).heap.size; simp; omega) fun q hq => by have := (HR5.out.1.lt q hq).1; omega))
                refine ⟨fun _ => ⟨hF6.cell 0, hF6.cell 1⟩, ?_⟩
                (try simp only [Act.put, List.setIfInBounds_toArray])
                have hbx6 : w.heap.size + 1 ≤ w6.heap.size := by have := HR6.out.2.2.size; have := HSZ.out; omega
                refine wpAnyE_if (i := 10) rfl (by kernel_rfl) rfl ?_
                refine step_append_rd rfl (.tmp 114) (.tmp 116) 30 rfl (w.heap.size + 1) 3 i3 (.int .i64 0) 1 8 Try.underlying30 hi3 hz30 hz31 hz32 rfl (by decide) (.slice A6 (m4 + 2) c6) (m4 + 2) _ rfl HR6.out.1 B qA qn qc (q.vals.map (Value.int .i64)) rfl HRD6.out ?c1 (m4 + 2 + qn) rfl ?c2 ?c3 ?c4 ?_
                case c1 => exact HON.out
                case c2 => unfold maxLen; omega
                case c3 => omega
                case c4 => omega
                intro A7 c7 w7 hown7 hg7
                have HR7 := Lib.hid (HR6.out.app (ys := q.vals) (by rw [HSZ.out]; exact Nat.le_refl _) (Below.refl _ _) hown7 hg7 rfl)
                have hF7 := HR6.out.box hF6 (by decide) (Below.refl _ _) hg7
                refine ⟨fun _ => ⟨hF7.cell 0, hF7.cell 1⟩, ?_⟩
                (try simp only [Act.put])
                refine wpAnyE_one (i := 11) rfl (by kernel_rfl) rfl ?_
                go_simp
                refine wpAnyE_done (by kernel_rfl) ?_ _
                have HUn : Hid (us ++ [qk, (qn : Int)] ++ q.vals = ys ++ ((it.cms.map Cm.p).take (j + 1)).flatMap cmN) := Lib.hid (by
                  have h1 := HLEN.out
                  rw [List.take_add_one, List.getElem?_map, HQ.out, HU.out]
                  simp only [Option.map_some, Option.toList, List.flatMap_append, List.flatMap_cons, List.flatMap_nil, List.append_nil, cmN, Cm.p, HQV.out.1, h1, List.append_assoc])
                clear HR6 hown6 hg6 hF6 hF7 s5 hown7 hg7 HRD6 HRD5 HR5 HF5 HR HU
                go_wp2_with fail
                go_roundw
                case rel => exact ⟨j + 1, m4 + 2 + qn, c7, A7, _, by omega, by go_num, rfl, HR7, HUn⟩
                case measure => simp [intOf]; omega
              · obtain rfl : j = cn := by omega
                have HZ2 : Hid (us = flatB Tk p ++ (p.its.take (k + 1)).flatMap itN) := Lib.hid (by
                  have h1 := HIO.out.len
                  have h3 : (it.cms.map Cm.p).length = it.cms.length := List.length_map _
                  have h2 : it.p = ((it.e, it.g), it.cms.map Cm.p) := rfl
                  rw [HU.out, HYS.out, HZ.out, List.take_add_one, HIP.out, h2, List.take_of_length_le (l := it.cms.map Cm.p) (by omega)]
                  simp only [Option.toList, List.flatMap_append, List.flatMap_cons, List.flatMap_nil, List.append_nil, itN, HIV.out.1, HIV.out.2.1, h3, ← h1, List.append_assoc])
                clear HZ HYS HU
                go_wp2_with fail
                go_roundw
                case rel => exact ⟨k + 1, m4, c4, A4, us, by omega, by go_num, rfl, HR, HZ2⟩
                case measure => simp [intOf]; omega
          · obtain rfl : k = im := by omega
            have HZ2 : Hid (zs = flatB Tk p ++ p.its.flatMap itN) := Lib.hid (by
              have h1 : k = its.length := HIS.out.len
              have h2 : p.its.length = k := by rw [HP.out.2.2, List.length_map]; exact h1.symm
              rw [HZ.out, List.take_of_length_le (by omega)])
            clear HZ
            have hm2 : m ≤ 2 + L1 + 1 + gn + 1 + L3 := by
              have h1 := HR.out.2.1
              have h2 := HM5.out
              have h3 := HL.out.2.1
              rw [HZ2.out] at h1
              simp only [List.length_append] at h1
              omega
            have HLB := HM5
            clear HM5
            have hbk := HX0.out.below HR.out.2.2 (by omega)
            have da : wo.cell? ⟨w.heap.size, 4, none⟩ = some (.slice cA cn cc) := hbk.cell 4
            have hbw : w.heap.size + 1 ≤ wo.heap.size := by have := HR.out.2.2.size; have := HSZ.out; omega
            have hnl : cn ≤ L4 := by rw [HL.out.2.2.1, HCS.out.len]; exact len_rows _ (fun x hx => by have := HCS.out.ok x hx; omega)
            go_wp2_with
              (at_builtin
               go_must (refine wpList_append_one _ rfl (.tmp 120) (.tmp 124) _ rfl (w.heap.size + 1) 3 i3 (.int .i64 0) 1 8 Try.underlying30 hi3 hz30 hz31 hz32 rfl (by decide) (.slice A m c) m _ rfl (HR.out.1.alloc _) wo.heap.size 1 3 #[.int .i64 cn] rfl (Bk.new _ _ _) rfl ?c1 (m + 1) rfl ?c2 ?c3 ?c4 ?_)
               case c1 => simp [Value.oneCell']
               case c2 => unfold maxLen; omega
               case c3 => omega
               case c4 => simp; omega
               intro g0 c0 w0 hown hgr hat
               have hbkx := HR.out.box hbk (by decide) ((Below.refl _ _).alloc (Nat.le_refl _) _) hgr
               have fa : w0.cell? ⟨w.heap.size, 4, none⟩ = some (.slice cA cn cc) := hbkx.cell 4)
            have HRa := Lib.hid (HR.out.app (ys := [(cn : Int)]) (by rw [HSZ.out]; exact Nat.le_refl _) ((Below.refl _ _).alloc (Nat.le_refl _) _) hown hgr rfl)
            clear hown hgr hat hbkx fa da hbk HR
            obtain ⟨m0, hm0'⟩ : ∃ z, z = m + 1 := ⟨_, rfl⟩
            rw [← hm0'] at HRa ⊢
            have HMa : Hid (m0 = (flatB Tk p ++ p.its.flatMap itN ++ [(cn : Int)]).length) := Lib.hid (by have := HRa.out.2.1; rw [HZ2.out] at this; exact this)
            have hmm : m0 ≤ 2 + L1 + 1 + gn + 1 + L3 + 1 := by omega
            clear hm0' hm2
            go_loopw [3, 129] (fun rv iv wr => ∃ (q m c : Nat) (A : Option Addr) (us : List Int), q ≤ cn ∧ iv = .int .i64 q ∧ rv = .slice A m c ∧ Hid (RowT (w.heap.size + 1) W0 wr A m c us) ∧ Hid (us = flatB Tk p ++ p.its.flatMap itN ++ [(cn : Int)] ++ (cts.take q).flatMap id)) (fun _ iv _ => cn - (intOf iv).toNat)
            case atStart => exact ⟨0, m0, c0, _, _, Nat.zero_le _, rfl, rfl, HRa, Lib.hid (by rw [HZ2.out]; simp)⟩
            case round =>
              clear HRa HZ2
              obtain ⟨q, m, c, A, us, hq, rfl, rfl, HR, HU⟩ := hrel
              obtain ⟨wo, rfl⟩ : ∃ z, z = wr := ⟨_, rfl⟩
              have hbw : w.heap.size + 1 ≤ wo.heap.size := by have := HR.out.2.2.size; have := HSZ.out; omega
              by_cases hlt : q < cn
              · have hso := HCS.out.below (HR.out.2.2.mono (by omega))
                obtain ⟨x, hx⟩ : ∃ x, cts[q]? = some x := ⟨_, List.getElem?_eq_getElem (by have := HCS.out.len; omega)⟩
                obtain ⟨b, o, rfl, hbb, hcx⟩ := hso.at_ hlt hx
                obtain ⟨a0, a1, a2, a3, a4, a5, a6, a7, a8, a9, rfl⟩ := len10 x (HCS.out.ok x (List.mem_of_getElem? hx))
                have q0 : wo.cell? ⟨b, o + q * 10, none⟩ = some (.int .i64 a0) := hcx 0 a0 rfl
                have q1 : wo.cell? ⟨b, o + q * 10 + 1, none⟩ = some (.int .i64 a1) := hcx 1 a1 rfl
                have q2 : wo.cell? ⟨b, o + q * 10 + 2, none⟩ = some (.int .i64 a2) := hcx 2 a2 rfl
                have q3 : wo.cell? ⟨b, o + q * 10 + 3, none⟩ = some (.int .i64 a3) := hcx 3 a3 rfl
                have q4 : wo.cell? ⟨b, o + q * 10 + 4, none⟩ = some (.int .i64 a4) := hcx 4 a4 rfl
                have q5 : wo.cell? ⟨b, o + q * 10 + 5, none⟩ = some (.int .i64 a5) := hcx 5 a5 rfl
                have q6 : wo.cell? ⟨b, o + q * 10 + 6, none⟩ = some (.int .i64 a6) := hcx 6 a6 rfl
                have q7 : wo.cell? ⟨b, o + q * 10 + 7, none⟩ = some (.int .i64 a7) := hcx 7 a7 rfl
                have q8 : wo.cell? ⟨b, o + q * 10 + 8, none⟩ = some (.int .i64 a8) := hcx 8 a8 rfl
                have q9 : wo.cell? ⟨b, o + q * 10 + 9, none⟩ = some (.int .i64 a9) := hcx 9 a9 rfl
                have hbd : m + 10 ≤ 2 + L1 + 1 + gn + 1 + L3 + 1 + L4 := by
                  have h1 := take_flat id hx
                  have h2 := HR.out.2.1
                  rw [HU.out] at h2
                  have h4 := HMa.out
                  have h5 := HL.out.2.2.1
                  have h3 : (id [a0, a1, a2, a3, a4, a5, a6, a7, a8, a9]).length = 10 := rfl
                  simp only [List.length_append] at h2 h4
                  omega
                have HX := Lib.hid hx
                clear hso hcx hx
                obtain ⟨v1, hv1⟩ : ∃ z, z = wo.alloc (.cells #[.int .i64 a0, .int .i64 a1, .int .i64 a2, .int .i64 a3, .int .i64 a4, .int .i64 a5, .int .i64 a6, .int .i64 a7, .int .i64 a8, .int .i64 a9] 131) := ⟨_, rfl⟩
                have HB1 : Hid (Below wo.heap.size wo v1) := Lib.hid (by rw [hv1]; exact (Below.refl _ _).alloc (Nat.le_refl _) _)
                have HK1 : Hid (Bk v1 wo.heap.size 131 #[.int .i64 a0, .int .i64 a1, .int .i64 a2, .int .i64 a3, .int .i64 a4, .int .i64 a5, .int .i64 a6, .int .i64 a7, .int .i64 a8, .int .i64 a9]) := Lib.hid (by rw [hv1]; exact Bk.new _ _ _)
                have HV1 := Lib.hid hv1
                clear hv1
                go_upto_region 29 with fail
                rw [← HV1.out]
                clear HV1 q0 q1 q2 q3 q4 q5 q6 q7 q8 q9
                have HR1 := Lib.hid (HR.out.below HB1.out (by rw [HSZ.out]; exact Nat.le_refl _))
                have hbw1 : w.heap.size + 1 ≤ v1.heap.size := by have := HB1.out.size; omega
                have e0 : v1.cell? ⟨wo.heap.size, 0, none⟩ = some (.int .i64 a0) := HK1.out.cell 0
                have e1 : v1.cell? ⟨wo.heap.size, 1, none⟩ = some (.int .i64 a1) := HK1.out.cell 1
                have e2 : v1.cell? ⟨wo.heap.size, 2, none⟩ = some (.int .i64 a2) := HK1.out.cell 2
                have e3 : v1.cell? ⟨wo.heap.size, 3, none⟩ = some (.int .i64 a3) := HK1.out.cell 3
                have e4 : v1.cell? ⟨wo.heap.size, 4, none⟩ = some (.int .i64 a4) := HK1.out.cell 4
                have e5 : v1.cell? ⟨wo.heap.size, 5, none⟩ = some (.int .i64 a5) := HK1.out.cell 5
                have e6 : v1.cell? ⟨wo.heap.size, 6, none⟩ = some (.int .i64 a6) := HK1.out.cell 6
                have e7 : v1.cell? ⟨wo.heap.size, 7, none⟩ = some (.int .i64 a7) := HK1.out.cell 7
                have e8 : v1.cell? ⟨wo.heap.size, 8, none⟩ = some (.int .i64 a8) := HK1.out.cell 8
                have e9 : v1.cell? ⟨wo.heap.size, 9, none⟩ = some (.int .i64 a9) := HK1.out.cell 9
                go_wp2_with
                  (at_builtin
                   go_must (refine wpList_append_rd _ rfl (.tmp 133) (.tmp 158) _ rfl (w.heap.size + 1) 3 i3 (.int .i64 0) 1 8 Try.underlying30 hi3 hz30 hz31 hz32 rfl (by decide) (.slice A m c) m _ rfl (HR1.out.1.alloc _) (v1.heap.size + 1) _ 10 10 [.int .i64 a0, .int .i64 a1, .int .i64 a2, .int .i64 a3, .int .i64 a4, .int .i64 a5, .int .i64 a6, .int .i64 a7, .int .i64 a8, .int .i64 a9] rfl (Rd.new v1 3 10 1 #[.int .i64 a0, .int .i64 a1, .int .i64 a2, .int .i64 a3, .int .i64 a4, .int .i64 a5, .int .i64 a6, .int .i64 a7, .int .i64 a8, .int .i64 a9] rfl) ?c1 ?c2 ?c3 ?c4 ?_)
                   case c1 => simp [Value.oneCell']
                   case c2 => unfold maxLen; omega
                   case c3 => omega
                   case c4 => simp; omega
                   intro A3 c3 v3 hown3 hg3 hat3)
                have HR3 := Lib.hid (HR1.out.app (ys := [a0, a1, a2, a3, a4, a5, a6, a7, a8, a9]) (by rw [HSZ.out]; exact Nat.le_refl _) ((Below.refl _ _).alloc (Nat.le_refl _) _) hown3 hg3 rfl)
                have HUn : Hid (us ++ [a0, a1, a2, a3, a4, a5, a6, a7, a8, a9] = flatB Tk p ++ p.its.flatMap itN ++ [(cn : Int)] ++ (cts.take (q + 1)).flatMap id) := Lib.hid (by
                  rw [List.take_add_one, HX.out, HU.out]
                  simp only [Option.toList, List.flatMap_append, List.flatMap_cons, List.flatMap_nil, List.append_nil, id, List.append_assoc])
                clear hown3 hg3 hat3 HR1 HK1 HB1 HR HU e0 e1 e2 e3 e4 e5 e6 e7 e8 e9
                go_wp2_with fail
                go_roundw
                case rel => exact ⟨q + 1, m + 10, c3, A3, _, by omega, by go_num, rfl, HR3, HUn⟩
                case measure => simp [intOf]; omega
              · obtain rfl : cn = q := by omega
                have HZ3 : Hid (us = flatB Tk p ++ p.its.flatMap itN ++ [(cn : Int)] ++ cts.flatMap id) := Lib.hid (by rw [HU.out, List.take_of_length_le (by rw [← HCS.out.len]; exact Nat.le_refl _)])
                have hm2 : m ≤ 2 + L1 + 1 + gn + 1 + L3 + 1 + L4 := by
                  have h1 := HR.out.2.1
                  have h4 := HMa.out
                  have h5 := HL.out.2.2.1
                  rw [HZ3.out] at h1
                  simp only [List.length_append] at h1 h4
                  omega
                clear HU HMa
                have hbk := HX0.out.below HR.out.2.2 (by omega)
                have da : wo.cell? ⟨w.heap.size, 5, none⟩ = some (.slice mA mn mc) := hbk.cell 5
                have hbw : w.heap.size + 1 ≤ wo.heap.size := by have := HR.out.2.2.size; have := HSZ.out; omega
                have hnl : mn ≤ L5 := by rw [HL.out.2.2.2.1, HMS.out.len]; exact (by rw [← List.length_map (f := Mdm.p)]; exact len_flat mdN mdN_pos _)
                go_wp2_with
                  (at_builtin
                   go_must (refine wpList_append_one _ rfl (.tmp 161) (.tmp 165) _ rfl (w.heap.size + 1) 3 i3 (.int .i64 0) 1 8 Try.underlying30 hi3 hz30 hz31 hz32 rfl (by decide) (.slice A m c) m _ rfl (HR.out.1.alloc _) wo.heap.size 1 3 #[.int .i64 mn] rfl (Bk.new _ _ _) rfl ?c1 (m + 1) rfl ?c2 ?c3 ?c4 ?_)
                   case c1 => simp [Value.oneCell']
                   case c2 => unfold maxLen; omega
                   case c3 => omega
                   case c4 => simp; omega
                   intro g1 c1 w1 hown hgr hat
                   have hbkx := HR.out.box hbk (by decide) ((Below.refl _ _).alloc (Nat.le_refl _) _) hgr
                   have fa : w1.cell? ⟨w.heap.size, 5, none⟩ = some (.slice mA mn mc) := hbkx.cell 5)
                have HRa := Lib.hid (HR.out.app (ys := [(mn : Int)]) (by rw [HSZ.out]; exact Nat.le_refl _) ((Below.refl _ _).alloc (Nat.le_refl _) _) hown hgr rfl)
                clear hown hgr hat hbkx fa da hbk HR
                obtain ⟨m1, hm1'⟩ : ∃ z, z = m + 1 := ⟨_, rfl⟩
                rw [← hm1'] at HRa ⊢
                have HMa : Hid (m1 = (flatB Tk p ++ p.its.flatMap itN ++ [(cn : Int)] ++ cts.flatMap id ++ [(mn : Int)]).length) := Lib.hid (by have := HRa.out.2.1; rw [HZ3.out] at this; exact this)
                have hmm : m1 ≤ 2 + L1 + 1 + gn + 1 + L3 + 1 + L4 + 1 := by omega
                clear hm1' hm2
                go_loopw [3, 170] (fun rv iv wr => ∃ (q m c : Nat) (A : Option Addr) (us : List Int), q ≤ mn ∧ iv = .int .i64 q ∧ rv = .slice A m c ∧ Hid (RowT (w.heap.size + 1) W0 wr A m c us) ∧ Hid (us = flatB Tk p ++ p.its.flatMap itN ++ [(cn : Int)] ++ cts.flatMap id ++ [(mn : Int)] ++ ((mds.map Mdm.p).take q).flatMap mdN)) (fun _ iv _ => mn - (intOf iv).toNat)
                case atStart => exact ⟨0, m1, c1, _, _, Nat.zero_le _, rfl, rfl, HRa, Lib.hid (by rw [HZ3.out]; simp)⟩
                case round =>
                  clear HRa HZ3
                  obtain ⟨q, m, c, A, us, hq, rfl, rfl, HR, HU⟩ := hrel
                  obtain ⟨wo, rfl⟩ : ∃ z, z = wr := ⟨_, rfl⟩
                  have hbw : w.heap.size + 1 ≤ wo.heap.size := by have := HR.out.2.2.size; have := HSZ.out; omega
                  by_cases hlt : q < mn
                  · have hso := HMS.out.below (HR.out.2.2.mono (by omega))
                    obtain ⟨x, hx⟩ : ∃ x, mds[q]? = some x := ⟨_, List.getElem?_eq_getElem (by have := HMS.out.len; omega)⟩
                    obtain ⟨b, o, rfl, hbb, q0, q1, q2, q3⟩ := hso.at_ hlt hx
                    have hxo := hso.ok x (List.mem_of_getElem? hx)
                    have hxp : (mds.map Mdm.p)[q]? = some x.p := by rw [List.getElem?_map, hx]; rfl
                    have hbd : m + 4 + x.k ≤ 2 + L1 + 1 + gn + 1 + L3 + 1 + L4 + 1 + L5 := by
                      have h1 := take_flat mdN hxp
                      have h2 := HR.out.2.1
                      rw [HU.out] at h2
                      have h4 := HMa.out
                      have h5 := HL.out.2.2.2.1
                      have h3 : (mdN x.p).length = 4 + x.k := by
                        unfold mdN Mdm.p
                        simp only [List.length_append, List.length_cons, List.length_nil, hxo.len]
                      simp only [List.length_append] at h2 h4
                      omega
                    have HX := Lib.hid hxp
                    have HRD : Hid (Rd wo B 1 x.A x.k (x.st.map (Value.int .i64))) := Lib.hid hxo.rd
                    have HLEN := Lib.hid hxo.len
                    have hone : ∀ u ∈ x.st.map (Value.int .i64), u.oneCell' = true := fun u hu => by
                      obtain ⟨z, _, rfl⟩ := List.mem_map.1 hu
                      rfl
                    have HON := Lib.hid hone
                    clear hxo hone hso hx hxp
                    generalize han : x.n = an at *
                    generalize hag : x.g = ag at *
                    generalize haq : x.q = aq at *
                    generalize hSA : x.A = SA at *
                    generalize hsn : x.k = sn at *
                    generalize hsc : x.c = sc at *
                    have HXV := Lib.hid (And.intro han (And.intro hag (And.intro haq (And.intro hSA (And.intro hsn hsc)))))
                    clear han hag haq hSA hsn hsc
                    obtain ⟨v1, hv1⟩ : ∃ z, z = wo.alloc (.cells #[.int .i64 an, .int .i64 ag, .int .i64 aq, .slice SA sn sc] 225) := ⟨_, rfl⟩
                    have HB1 : Hid (Below wo.heap.size wo v1) := Lib.hid (by rw [hv1]; exact (Below.refl _ _).alloc (Nat.le_refl _) _)
                    have HK1 : Hid (Bk v1 wo.heap.size 225 #[.int .i64 an, .int .i64 ag, .int .i64 aq, .slice SA sn sc]) := Lib.hid (by rw [hv1]; exact Bk.new _ _ _)
                    have HV1 := Lib.hid hv1
                    clear hv1
                    go_upto_region 35 with fail
                    rw [← HV1.out]
                    clear HV1 q0 q1 q2 q3
                    have HR1 := Lib.hid (HR.out.below HB1.out (by rw [HSZ.out]; exact Nat.le_refl _))
                    have hbw1 : w.heap.size + 1 ≤ v1.heap.size := by have := HB1.out.size; omega
                    have HRD5 := Lib.hid (HRD.out.below (HB1.out.mono (by omega)))
                    clear HRD
                    obtain ⟨hf, hhf⟩ : ∃ hf, hf = wo.heap.size := ⟨_, rfl⟩
                    rw [← hhf] at HK1 ⊢
                    clear hhf
                    have s5 : v1.drew.cell? ⟨hf, 0, none⟩ = some (.int .i64 an) ∧ v1.drew.cell? ⟨hf, 1, none⟩ = some (.int .i64 ag) ∧ v1.drew.cell? ⟨hf, 2, none⟩ = some (.int .i64 aq) ∧ v1.drew.cell? ⟨hf, 3, none⟩ = some (.slice SA sn sc) := ⟨HK1.out.cell 0, HK1.out.cell 1, HK1.out.cell 2, HK1.out.cell 3⟩
                    refine wp_region_E (S := fun wz => wz.cell? ⟨hf, 0, none⟩ = some (.int .i64 an) ∧ wz.cell? ⟨hf, 1, none⟩ = some (.int .i64 ag) ∧ wz.cell? ⟨hf, 2, none⟩ = some (.int .i64 aq) ∧ wz.cell? ⟨hf, 3, none⟩ = some (.slice SA sn sc)) (last := 17) (by kernel_rfl) ?_
                    refine wpAnyE_val (i := 0) (v := .slice A m c) (d := some 174) rfl rfl (by kernel_rfl) (by kernel_rfl) (by kernel_rfl) (by kernel_rfl) (fun _ _ _ h => h) (Or.inl ⟨by rfl, fun w hS => by (obtain ⟨h0, h1, h2, h3⟩ := hS; go_simp)⟩) s5 ?_
                    (try simp only [Act.put, List.setIfInBounds_toArray, List.set_cons_zero, List.set_cons_succ])
                    refine wpAnyE_val (i := 1) (v := .pointer (some ⟨hf, 0, none⟩)) (d := some 175) rfl rfl (by kernel_rfl) (by kernel_rfl) (by kernel_rfl) (by kernel_rfl) (fun _ _ _ h => h) (Or.inl ⟨by rfl, fun w hS => by (obtain ⟨h0, h1, h2, h3⟩ := hS; go_simp)⟩) s5 ?_
                    (try simp only [Act.put, List.setIfInBounds_toArray, List.set_cons_zero, List.set_cons_succ])
                    refine wpAnyE_val (i := 2) (v := .pointer (some ⟨hf, 0, none⟩)) (d := some 176) rfl rfl (by kernel_rfl) (by kernel_rfl) (by kernel_rfl) (by kernel_rfl) (fun _ _ _ h => h) (Or.inl ⟨by rfl, fun w hS => by (obtain ⟨h0, h1, h2, h3⟩ := hS; go_simp)⟩) s5 ?_
                    (try simp only [Act.put, List.setIfInBounds_toArray, List.set_cons_zero, List.set_cons_succ])
                    refine wpAnyE_val (i := 3) (v := .int .i64 an) (d := some 177) rfl rfl (by kernel_rfl) (by kernel_rfl) (by kernel_rfl) (by kernel_rfl) (fun _ _ _ h => h) (Or.inl ⟨by rfl, fun w hS => by (obtain ⟨h0, h1, h2, h3⟩ := hS; go_simp)⟩) s5 ?_
                    (try simp only [Act.put, List.setIfInBounds_toArray, List.set_cons_zero, List.set_cons_succ])
                    refine wpAnyE_val (i := 4) (v := .pointer (some ⟨hf, 0, none⟩)) (d := some 178) rfl rfl (by kernel_rfl) (by kernel_rfl) (by kernel_rfl) (by kernel_rfl) (fun _ _ _ h => h) (Or.inl ⟨by rfl, fun w hS => by (obtain ⟨h0, h1, h2, h3⟩ := hS; go_simp)⟩) s5 ?_
                    (try simp only [Act.put, List.setIfInBounds_toArray, List.set_cons_zero, List.set_cons_succ])
                    refine wpAnyE_val (i := 5) (v := .pointer (some ⟨hf, 1, none⟩)) (d := some 179) rfl rfl (by kernel_rfl) (by kernel_rfl) (by kernel_rfl) (by kernel_rfl) (fun _ _ _ h => h) (Or.inl ⟨by rfl, fun w hS => by (obtain ⟨h0, h1, h2, h3⟩ := hS; go_simp)⟩) s5 ?_
                    (try simp only [Act.put, List.setIfInBounds_toArray, List.set_cons_zero, List.set_cons_succ])
                    refine wpAnyE_val (i := 6) (v := .int .i64 ag) (d := some 180) rfl rfl (by kernel_rfl) (by kernel_rfl) (by kernel_rfl) (by kernel_rfl) (fun _ _ _ h => h) (Or.inl ⟨by rfl, fun w hS => by (obtain ⟨h0, h1, h2, h3⟩ := hS; go_simp)⟩) s5 ?_
                    (try simp only [Act.put, List.setIfInBounds_toArray, List.set_cons_zero, List.set_cons_succ])
                    refine wpAnyE_val (i := 7) (v := .pointer (some ⟨hf, 2, none⟩)) (d := some 181) rfl rfl (by kernel_rfl) (by kernel_rfl) (by kernel_rfl) (by kernel_rfl) (fun _ _ _ h => h) (Or.inl ⟨by rfl, fun w hS => by (obtain ⟨h0, h1, h2, h3⟩ := hS; go_simp)⟩) s5 ?_
                    (try simp only [Act.put, List.setIfInBounds_toArray, List.set_cons_zero, List.set_cons_succ])
                    refine wpAnyE_val (i := 8) (v := .int .i64 aq) (d := some 182) rfl rfl (by kernel_rfl) (by kernel_rfl) (by kernel_rfl) (by kernel_rfl) (fun _ _ _ h => h) (Or.inl ⟨by rfl, fun w hS => by (obtain ⟨h0, h1, h2, h3⟩ := hS; go_simp)⟩) s5 ?_
                    (try simp only [Act.put, List.setIfInBounds_toArray, List.set_cons_zero, List.set_cons_succ])
                    refine wpAnyE_val (i := 9) (v := .pointer (some ⟨hf, 3, none⟩)) (d := some 183) rfl rfl (by kernel_rfl) (by kernel_rfl) (by kernel_rfl) (by kernel_rfl) (fun _ _ _ h => h) (Or.inl ⟨by rfl, fun w hS => by (obtain ⟨h0, h1, h2, h3⟩ := hS; go_simp)⟩) s5 ?_
                    (try simp only [Act.put, List.setIfInBounds_toArray, List.set_cons_zero, List.set_cons_succ])
                    refine wpAnyE_val (i := 10) (v := .slice SA sn sc) (d := some 184) rfl rfl (by kernel_rfl) (by kernel_rfl) (by kernel_rfl) (by kernel_rfl) (fun _ _ _ h => h) (Or.inl ⟨by rfl, fun w hS => by (obtain ⟨h0, h1, h2, h3⟩ := hS; go_simp)⟩) s5 ?_
                    (try simp only [Act.put, List.setIfInBounds_toArray, List.set_cons_zero, List.set_cons_succ])
                    refine wpAnyE_val (i := 11) (v := .int .i64 sn) (d := some 185) rfl rfl (by kernel_rfl) (by kernel_rfl) (by kernel_rfl) (by kernel_rfl) (fun _ _ _ h => h) (Or.inl ⟨by rfl, fun w hS => by (obtain ⟨h0, h1, h2, h3⟩ := hS; go_simp)⟩) s5 ?_
                    (try simp only [Act.put, List.setIfInBounds_toArray, List.set_cons_zero, List.set_cons_succ])
                    refine wpAnyE_val (i := 14) (v := .pointer (some ⟨hf, 3, none⟩)) (d := some 188) rfl rfl (by kernel_rfl) (by kernel_rfl) (by kernel_rfl) (by kernel_rfl) (fun _ _ _ h => h) (Or.inl ⟨by rfl, fun w hS => by (obtain ⟨h0, h1, h2, h3⟩ := hS; go_simp)⟩) s5 ?_
                    (try simp only [Act.put, List.setIfInBounds_toArray, List.set_cons_zero, List.set_cons_succ])
                    refine wpAnyE_val (i := 15) (v := .slice SA sn sc) (d := some 189) rfl rfl (by kernel_rfl) (by kernel_rfl) (by kernel_rfl) (by kernel_rfl) (fun _ _ _ h => h) (Or.inl ⟨by rfl, fun w hS => by (obtain ⟨h0, h1, h2, h3⟩ := hS; go_simp)⟩) s5 ?_
                    (try simp only [Act.put, List.setIfInBounds_toArray, List.set_cons_zero, List.set_cons_succ])
                    refine wpAnyE_one (i := 12) rfl (by kernel_rfl) rfl ?_
                    go_simp
                    (try refine ⟨⟨(HK1.out.alloc _).cell 0, (HK1.out.alloc _).cell 1, (HK1.out.alloc _).cell 2, (HK1.out.alloc _).cell 3⟩, ?_⟩)
                    (try simp only [Act.put, List.setIfInBounds_toArray, List.set_cons_zero, List.set_cons_succ])
                    refine wpAnyE_if (i := 13) rfl (by kernel_rfl) rfl ?_
                    refine step_append_rd rfl (.tmp 174) (.tmp 186) 30 rfl (w.heap.size + 1) 3 i3 (.int .i64 0) 1 8 Try.underlying30 hi3 hz30 hz31 hz32 rfl (by decide) (.slice A m c) m _ rfl (HR1.out.1.alloc _) (v1.heap.size + 1) _ 4 4 [.int .i64 an, .int .i64 ag, .int .i64 aq, .int .i64 sn] rfl (Rd.new v1 3 4 1 #[.int .i64 an, .int .i64 ag, .int .i64 aq, .int .i64 sn] rfl) ?c1 (m + 4) rfl ?c2 ?c3 ?c4 ?_
                    case c1 => simp [Value.oneCell']
                    case c2 => unfold maxLen; omega
                    case c3 => omega
                    case c4 => simp; omega
                    intro A6 c6 w6 hown6 hg6
                    have HR6 := Lib.hid (HR1.out.app (ys := [an, ag, aq, (sn : Int)]) (by rw [HSZ.out]; exact Nat.le_refl _) ((Below.refl _ _).alloc (Nat.le_refl _) (.cells #[.int .i64 an, .int .i64 ag, .int .i64 aq, .int .i64 sn] 3)).drew hown6 hg6 rfl)
                    have hF6 := HR1.out.box HK1.out (by decide) ((Below.refl _ _).alloc (Nat.le_refl _) (.cells #[.int .i64 an, .int .i64 ag, .int .i64 aq, .int .i64 sn] 3)).drew hg6
                    have HRD6 := Lib.hid (HRD5.out.below ((((Below.refl _ _).alloc (Nat.le_refl _) (.cells #[.int .i64 an, .int .i64 ag, .int .i64 aq, .int .i64 sn] 3)).drew.mono (Nat.le_trans hB (by omega))).grown hg6 (by show B ≤ (v1.alloc _).heap.size; simp; omega) fun q hq => by have := (HR1.out.1.lt q hq).1; omega))
                    refine ⟨fun _ => ⟨hF6.cell 0, hF6.cell 1, hF6.cell 2, hF6.cell 3⟩, ?_⟩
                    (try simp only [Act.put, List.setIfInBounds_toArray])
                    have hbx6 : w.heap.size + 1 ≤ w6.heap.size := by have := HR6.out.2.2.size; have := HSZ.out; omega
                    refine wpAnyE_if (i := 16) rfl (by kernel_rfl) rfl ?_
                    refine step_append_rd rfl (.tmp 187) (.tmp 189) 30 rfl (w.heap.size + 1) 3 i3 (.int .i64 0) 1 8 Try.underlying30 hi3 hz30 hz31 hz32 rfl (by decide) (.slice A6 (m + 4) c6) (m + 4) _ rfl HR6.out.1 B SA sn sc (x.st.map (Value.int .i64)) rfl HRD6.out ?c1 (m + 4 + sn) rfl ?c2 ?c3 ?c4 ?_
                    case c1 => exact HON.out
                    case c2 => unfold maxLen; omega
                    case c3 => omega
                    case c4 => omega
                    intro A7 c7 w7 hown7 hg7
                    have HR7 := Lib.hid (HR6.out.app (ys := x.st) (by rw [HSZ.out]; exact Nat.le_refl _) (Below.refl _ _) hown7 hg7 rfl)
                    have hF7 := HR6.out.box hF6 (by decide) (Below.refl _ _) hg7
                    refine ⟨fun _ => ⟨hF7.cell 0, hF7.cell 1, hF7.cell 2, hF7.cell 3⟩, ?_⟩
                    (try simp only [Act.put, List.setIfInBounds_toArray])
                    refine wpAnyE_one (i := 17) rfl (by kernel_rfl) rfl ?_
                    go_simp
                    refine wpAnyE_done (by kernel_rfl) ?_ _
                    have HUn : Hid (us ++ [an, ag, aq, (sn : Int)] ++ x.st = flatB Tk p ++ p.its.flatMap itN ++ [(cn : Int)] ++ cts.flatMap id ++ [(mn : Int)] ++ ((mds.map Mdm.p).take (q + 1)).flatMap mdN) := Lib.hid (by
                      have h1 := HLEN.out
                      rw [List.take_add_one, HX.out, HU.out]
                      simp only [Option.toList, List.flatMap_append, List.flatMap_cons, List.flatMap_nil, List.append_nil, mdN, Mdm.p, HXV.out.1, HXV.out.2.1, HXV.out.2.2.1, h1, List.append_assoc, List.cons_append, List.nil_append])
                    clear HR6 hown6 hg6 hF6 hF7 s5 hown7 hg7 HRD6 HRD5 HR1 HK1 HR HU
                    go_wp2_with fail
                    go_roundw
                    case rel => exact ⟨q + 1, m + 4 + sn, c7, A7, _, by omega, by go_num, rfl, HR7, HUn⟩
                    case measure => simp [intOf]; omega
                  · obtain rfl : mn = q := by omega
                    have HZ4 : Hid (us = flatB Tk p ++ p.its.flatMap itN ++ [(cn : Int)] ++ cts.flatMap id ++ [(mn : Int)] ++ (mds.map Mdm.p).flatMap mdN) := Lib.hid (by rw [HU.out, List.take_of_length_le (by rw [List.length_map, ← HMS.out.len]; exact Nat.le_refl _)])
                    have hm2 : m ≤ 2 + L1 + 1 + gn + 1 + L3 + 1 + L4 + 1 + L5 := by
                      have h1 := HR.out.2.1
                      have h4 := HMa.out
                      have h5 := HL.out.2.2.2.1
                      rw [HZ4.out] at h1
                      simp only [List.length_append] at h1 h4
                      omega
                    clear HU HMa
                    have hbk := HX0.out.below HR.out.2.2 (by omega)
                    have da : wo.cell? ⟨w.heap.size, 6, none⟩ = some (.slice eA en ec) := hbk.cell 6
                    have hbw : w.heap.size + 1 ≤ wo.heap.size := by have := HR.out.2.2.size; have := HSZ.out; omega
                    have hnl : en ≤ L6 := by rw [HL.out.2.2.2.2, HES.out.len]; exact len_rows _ (fun x hx => by have := HES.out.ok x hx; omega)
                    go_wp2_with
                      (at_builtin
                       go_must (refine wpList_append_one _ rfl (.tmp 192) (.tmp 196) _ rfl (w.heap.size + 1) 3 i3 (.int .i64 0) 1 8 Try.underlying30 hi3 hz30 hz31 hz32 rfl (by decide) (.slice A m c) m _ rfl (HR.out.1.alloc _) wo.heap.size 1 3 #[.int .i64 en] rfl (Bk.new _ _ _) rfl ?c1 (m + 1) rfl ?c2 ?c3 ?c4 ?_)
                       case c1 => simp [Value.oneCell']
                       case c2 => unfold maxLen; omega
                       case c3 => omega
                       case c4 => simp; omega
                       intro g2 c2 w2 hown hgr hat
                       have hbkx := HR.out.box hbk (by decide) ((Below.refl _ _).alloc (Nat.le_refl _) _) hgr
                       have fa : w2.cell? ⟨w.heap.size, 6, none⟩ = some (.slice eA en ec) := hbkx.cell 6)
                    have HRa := Lib.hid (HR.out.app (ys := [(en : Int)]) (by rw [HSZ.out]; exact Nat.le_refl _) ((Below.refl _ _).alloc (Nat.le_refl _) _) hown hgr rfl)
                    clear hown hgr hat hbkx fa da hbk HR
                    obtain ⟨m2, hm2'⟩ : ∃ z, z = m + 1 := ⟨_, rfl⟩
                    rw [← hm2'] at HRa ⊢
                    have HMa : Hid (m2 = (flatB Tk p ++ p.its.flatMap itN ++ [(cn : Int)] ++ cts.flatMap id ++ [(mn : Int)] ++ (mds.map Mdm.p).flatMap mdN ++ [(en : Int)]).length) := Lib.hid (by have := HRa.out.2.1; rw [HZ4.out] at this; exact this)
                    have hmm : m2 ≤ 2 + L1 + 1 + gn + 1 + L3 + 1 + L4 + 1 + L5 + 1 := by omega
                    clear hm2' hm2
                    go_loopw [3, 201] (fun rv iv wr => ∃ (q m c : Nat) (A : Option Addr) (us : List Int), q ≤ en ∧ iv = .int .i64 q ∧ rv = .slice A m c ∧ Hid (RowT (w.heap.size + 1) W0 wr A m c us) ∧ Hid (us = flatB Tk p ++ p.its.flatMap itN ++ [(cn : Int)] ++ cts.flatMap id ++ [(mn : Int)] ++ (mds.map Mdm.p).flatMap mdN ++ [(en : Int)] ++ (evs.take q).flatMap id)) (fun _ iv _ => en - (intOf iv).toNat)
                    case atStart => exact ⟨0, m2, c2, _, _, Nat.zero_le _, rfl, rfl, HRa, Lib.hid (by rw [HZ4.out]; simp)⟩
                    case round =>
                      clear HRa HZ4
                      obtain ⟨q, m, c, A, us, hq, rfl, rfl, HR, HU⟩ := hrel
                      obtain ⟨wo, rfl⟩ : ∃ z, z = wr := ⟨_, rfl⟩
                      have hbw : w.heap.size + 1 ≤ wo.heap.size := by have := HR.out.2.2.size; have := HSZ.out; omega
                      by_cases hlt : q < en
                      · have hso := HES.out.below (HR.out.2.2.mono (by omega))
                        obtain ⟨x, hx⟩ : ∃ x, evs[q]? = some x := ⟨_, List.getElem?_eq_getElem (by have := HES.out.len; omega)⟩
                        obtain ⟨b, o, rfl, hbb, hcx⟩ := hso.at_ hlt hx
                        obtain ⟨a0, a1, a2, a3, rfl⟩ := len4 x (HES.out.ok x (List.mem_of_getElem? hx))
                        have q0 : wo.cell? ⟨b, o + q * 4, none⟩ = some (.int .i64 a0) := hcx 0 a0 rfl
                        have q1 : wo.cell? ⟨b, o + q * 4 + 1, none⟩ = some (.int .i64 a1) := hcx 1 a1 rfl
                        have q2 : wo.cell? ⟨b, o + q * 4 + 2, none⟩ = some (.int .i64 a2) := hcx 2 a2 rfl
                        have q3 : wo.cell? ⟨b, o + q * 4 + 3, none⟩ = some (.int .i64 a3) := hcx 3 a3 rfl
                        have hbd : m + 4 ≤ 2 + L1 + 1 + gn + 1 + L3 + 1 + L4 + 1 + L5 + 1 + L6 := by
                          have h1 := take_flat id hx
                          have h2 := HR.out.2.1
                          rw [HU.out] at h2
                          have h4 := HMa.out
                          have h5 := HL.out.2.2.2.2
                          have h3 : (id [a0, a1, a2, a3]).length = 4 := rfl
                          simp only [List.length_append] at h2 h4
                          omega
                        have HX := Lib.hid hx
                        clear hso hcx hx
                        obtain ⟨v1, hv1⟩ : ∃ z, z = wo.alloc (.cells #[.int .i64 a0, .int .i64 a1, .int .i64 a2, .int .i64 a3] 227) := ⟨_, rfl⟩
                        have HB1 : Hid (Below wo.heap.size wo v1) := Lib.hid (by rw [hv1]; exact (Below.refl _ _).alloc (Nat.le_refl _) _)
                        have HK1 : Hid (Bk v1 wo.heap.size 227 #[.int .i64 a0, .int .i64 a1, .int .i64 a2, .int .i64 a3]) := Lib.hid (by rw [hv1]; exact Bk.new _ _ _)
                        have HV1 := Lib.hid hv1
                        clear hv1
                        go_upto_region 41 with fail
                        rw [← HV1.out]
                        clear HV1 q0 q1 q2 q3
                        have HR1 := Lib.hid (HR.out.below HB1.out (by rw [HSZ.out]; exact Nat.le_refl _))
                        have hbw1 : w.heap.size + 1 ≤ v1.heap.size := by have := HB1.out.size; omega
                        have e0 : v1.cell? ⟨wo.heap.size, 0, none⟩ = some (.int .i64 a0) := HK1.out.cell 0
                        have e1 : v1.cell? ⟨wo.heap.size, 1, none⟩ = some (.int .i64 a1) := HK1.out.cell 1
                        have e2 : v1.cell? ⟨wo.heap.size, 2, none⟩ = some (.int .i64 a2) := HK1.out.cell 2
                        have e3 : v1.cell? ⟨wo.heap.size, 3, none⟩ = some (.int .i64 a3) := HK1.out.cell 3
                        go_wp2_with
                          (at_builtin
                           go_must (refine wpList_append_rd _ rfl (.tmp 205) (.tmp 216) _ rfl (w.heap.size + 1) 3 i3 (.int .i64 0) 1 8 Try.underlying30 hi3 hz30 hz31 hz32 rfl (by decide) (.slice A m c) m _ rfl (HR1.out.1.alloc _) (v1.heap.size + 1) _ 4 4 [.int .i64 a0, .int .i64 a1, .int .i64 a2, .int .i64 a3] rfl (Rd.new v1 3 4 1 #[.int .i64 a0, .int .i64 a1, .int .i64 a2, .int .i64 a3] rfl) ?c1 ?c2 ?c3 ?c4 ?_)
                           case c1 => simp [Value.oneCell']
                           case c2 => unfold maxLen; omega
                           case c3 => omega
                           case c4 => simp; omega
                           intro A3 c3 v3 hown3 hg3 hat3)
                        have HR3 := Lib.hid (HR1.out.app (ys := [a0, a1, a2, a3]) (by rw [HSZ.out]; exact Nat.le_refl _) ((Below.refl _ _).alloc (Nat.le_refl _) _) hown3 hg3 rfl)
                        have HUn : Hid (us ++ [a0, a1, a2, a3] = flatB Tk p ++ p.its.flatMap itN ++ [(cn : Int)] ++ cts.flatMap id ++ [(mn : Int)] ++ (mds.map Mdm.p).flatMap mdN ++ [(en : Int)] ++ (evs.take (q + 1)).flatMap id) := Lib.hid (by
                          rw [List.take_add_one, HX.out, HU.out]
                          simp only [Option.toList, List.flatMap_append, List.flatMap_cons, List.flatMap_nil, List.append_nil, id, List.append_assoc])
                        clear hown3 hg3 hat3 HR1 HK1 HB1 HR HU e0 e1 e2 e3
                        go_wp2_with fail
                        go_roundw
                        case rel => exact ⟨q + 1, m + 4, c3, A3, _, by omega, by go_num, rfl, HR3, HUn⟩
                        case measure => simp [intOf]; omega
                      · obtain rfl : en = q := by omega
                        have HZ5 : Hid (us = flatB Tk p ++ p.its.flatMap itN ++ [(cn : Int)] ++ cts.flatMap id ++ [(mn : Int)] ++ (mds.map Mdm.p).flatMap mdN ++ [(en : Int)] ++ evs.flatMap id) := Lib.hid (by rw [HU.out, List.take_of_length_le (by rw [← HES.out.len]; exact Nat.le_refl _)])
                        have hm2 : m ≤ 2 + L1 + 1 + gn + 1 + L3 + 1 + L4 + 1 + L5 + 1 + L6 := by
                          have h1 := HR.out.2.1
                          have h4 := HMa.out
                          have h5 := HL.out.2.2.2.2
                          rw [HZ5.out] at h1
                          simp only [List.length_append] at h1 h4
                          omega
                        clear HU HMa
                        go_wp2_with fail
                        go_ret
                        have hfl : FS = us := by
                          rw [HFS.out, HZ5.out]
                          have h1 : cn = cts.length := HCS.out.len
                          have h2 : mn = (mds.map Mdm.p).length := by rw [List.length_map]; exact HMS.out.len
                          have h3 : en = evs.length := HES.out.len
                          have h4 : gn = p.gens.length := HGL.out.symm
                          simp only [flatS, worldN, gensN, itsN, ctsN, mdsN, evsN, flatB, flatA, h1, h2, h3, List.append_assoc, List.cons_append, List.nil_append]
                        have h1 := HR.out
                        rw [hfl]
                        have e : us.length = m := h1.2.1.symm
                        refine ⟨A, c, by rw [e]; rfl, by rw [e]; exact own_mono h1.1 (by omega), HB0.out.trans (h1.2.2.mono (by omega))⟩
end Go.Proofs.Ytnidcmhfbkdioaa
