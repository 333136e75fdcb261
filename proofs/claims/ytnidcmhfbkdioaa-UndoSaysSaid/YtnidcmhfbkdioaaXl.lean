/-
  The contract of undo.Do where the world is another one. Conditions: worlds that can be read, of bounded sizes; numbers that fit.
-/
import Derived.Test.YtnidcmhfbkdioaaXj
namespace Go.Proofs.Ytnidcmhfbkdioaa
open Go.RowKit
set_option maxRecDepth 100000

theorem RowM.nil0 (w : World) (base : Nat) : RowM w base none 0 0 [] := ⟨RdY.nil_ _, rfl, Nat.le_refl _, by omega, .inl ⟨rfl, fun _ => rfl⟩, (fun s hs => by cases hs), fun q hq => by simp [Value.ownBlock] at hq⟩
def lastN (dn : Nat) : Nat := min (dn + 1) 100
def last100 (dn : Nat) (L : List StM) : List StM := if dn < 100 then L else L.tail
/-- A row of steps without its first. -/
theorem RowM.tail {w : World} {base n c : Nat} {A : Option Addr} {s : StM} {D : List StM} (h : RowM w base A (n + 1) c (s :: D)) (hn : 0 < n) : ∃ b o, A = some ⟨b, o, none⟩ ∧ RowM w base (some ⟨b, o + 3, none⟩) n (c - 1) D := by
  have hl : n = D.length := by have := h.len; rw [List.length_cons] at this; omega
  have hst : stCs (s :: D) = stCs [s] ++ stCs D := by rw [← stCs_app]; rfl
  have h3 : (stCs [s]).length = 3 := by rw [stCs_length]; rfl
  have hc := h.cap
  have hc2 := h.cap2
  obtain ⟨b, o, h1, h2, h4, h5⟩ := h.rd.2 (by omega)
  refine ⟨b, o, h1, ⟨⟨by rw [stCs_length, hl], fun _ => ⟨b, o + 3, rfl, h2, h4, fun j u hu => ?_⟩⟩, hl, by omega, by omega, ?_, fun x hx => h.sts x (List.mem_cons_of_mem _ hx), fun q hq => h.ty q (by rw [h1]; exact hq)⟩⟩
  · have hj := (List.getElem?_eq_some_iff.1 hu).1
    rw [Nat.add_assoc]
    exact h5 (3 + j) u (by rw [hst, List.getElem?_append_right (by omega), h3, Nat.add_sub_cancel_left]; exact hu)
  · rcases h.mode with ⟨e1, e2⟩ | how
    · exact .inl ⟨by omega, fun e => by cases e⟩
    · refine .inr ?_
      rw [hst] at how
      obtain ⟨g, o', e1, e2⟩ := how.tail h3
      rw [h1] at e1
      injection e1 with e1
      injection e1 with e1 e3
      subst e1 e3
      exact e2
set_option maxHeartbeats 8000000 in
theorem do2_any (hb base : Nat) (x v : Wd) (nm : ByteArray) (dA gA : Option Addr) (dn dc gn gc : Nat) (D G : List StM) (w : World) (h : HistY w hb base x dA dn dc D gA gn gc G) (hv : WdY w 0 v) (hc : wcheckF v.p = 0) (hne : x.p ≠ v.p) (gx : GoodW x.p) (gv : GoodW v.p) (hok : encOk (FW x.p) (FW v.p)) (hok2 : encOk (FW v.p) (FW x.p)) (hdn : dn ≤ 100) (hbase : base ≤ w.heap.size) :
    Calls Try.prog 84 #[.pointer (some ⟨hb, 0, none⟩), .string nm, .agg #[.slice v.kA v.kn v.kc, .slice v.gA v.gn v.gc, .slice v.iA v.im v.ic]] w fun e w' => ∃ (y : Wd) (A' : Option Addr) (n' c' : Nat) (s : StM), e = .returned (.int .i64 0) ∧ Hid (HistY w' hb base y A' n' c' (last100 dn (D ++ [s])) none 0 0 [] ∧ n' = lastN dn ∧ y.p = v.p ∧ s.nm = nm ∧ s.ob = encD x.p v.p ∧ s.bb = encD v.p x.p) ∧ Hid (Kz base w w') := by
  have hbw : hb < w.heap.size := Bk.lt h.bk
  obtain ⟨W1, hW1⟩ : ∃ W1, W1 = w.alloc (.cells #[.slice v.kA v.kn v.kc, .slice v.gA v.gn v.gc, .slice v.iA v.im v.ic] 52) := ⟨_, rfl⟩
  have hb1 : Below w.heap.size w W1 := by rw [hW1]; exact Below.al (Below.refl _ _) _
  have hbx : Bk W1 w.heap.size 52 #[.slice v.kA v.kn v.kc, .slice v.gA v.gn v.gc, .slice v.iA v.im v.ic] := by rw [hW1]; exact Bk.new _ _ _
  have HCK : Hid (Calls Try.prog 32 #[.agg #[.slice v.kA v.kn v.kc, .slice v.gA v.gn v.gc, .slice v.iA v.im v.ic]] W1 fun e w' => e = .returned (.int .i64 0) ∧ Below W1.heap.size W1 w') := Lib.hid (by
    have := wcheck_any (hv.ok_.below hb1)
    rw [hc] at this; exact this)
  have HSM : Hid (∀ wz, Below W1.heap.size W1 wz → Calls Try.prog 38 #[.agg #[.slice x.kA x.kn x.kc, .slice x.gA x.gn x.gc, .slice x.iA x.im x.ic], .agg #[.slice v.kA v.kn v.kc, .slice v.gA v.gn v.gc, .slice v.iA v.im v.ic]] wz fun e w' => e = .returned (.bool false) ∧ Below wz.heap.size wz w') := Lib.hid (fun wz hb => by
    have := wsame_any (h.x.ok_.below (hb1.trans (hb.mono hb1.size))) (hv.ok_.below (hb1.trans (hb.mono hb1.size)))
    rw [decide_eq_false hne] at this; exact this)
  have HBT : Hid (∀ wz, Below W1.heap.size W1 wz → Calls Try.prog 159 #[.string nm, .agg #[.slice x.kA x.kn x.kc, .slice x.gA x.gn x.gc, .slice x.iA x.im x.ic], .agg #[.slice v.kA v.kn v.kc, .slice v.gA v.gn v.gc, .slice v.iA v.im v.ic]] wz (BetPost wz nm x.p v.p)) := Lib.hid (fun wz hb => between_any nm x v w.heap.size wz (h.x.ok_.below (hb1.trans (hb.mono hb1.size))) (hv.ok_.below (hb1.trans (hb.mono hb1.size))) (hb1.trans (hb.mono hb1.size)).size gx gv hok hok2)
  have HCP : Hid (∀ wz, Below W1.heap.size W1 wz → Calls Try.prog 105 #[.agg #[.slice v.kA v.kn v.kc, .slice v.gA v.gn v.gc, .slice v.iA v.im v.ic]] wz fun e w' => ∃ y : Wd, e = .returned (.agg #[.slice y.kA y.kn y.kc, .slice y.gA y.gn y.gc, .slice y.iA y.im y.ic]) ∧ WdY w' 0 y ∧ y.p = v.p ∧ Below wz.heap.size wz w') := Lib.hid (fun wz hb => wcopy_any (hv.ok_.below (hb1.trans (hb.mono hb1.size))) gv.sz.small)
  have HH := Lib.hid h
  have HBX := Lib.hid hbx
  have HB1 := Lib.hid hb1
  have a0 : W1.cell? ⟨w.heap.size, 0, none⟩ = some (.slice v.kA v.kn v.kc) := hbx.cell 0
  have a1 : W1.cell? ⟨w.heap.size, 1, none⟩ = some (.slice v.gA v.gn v.gc) := hbx.cell 1
  have a2 : W1.cell? ⟨w.heap.size, 2, none⟩ = some (.slice v.iA v.im v.ic) := hbx.cell 2
  clear h hv hc hne gx gv hok hok2 hbx hb1
  go_enter Try.func84, Try.ntmps84
  go_upto_region 1 with fail
  rw [← hW1]
  clear hW1
  go_wp2_with fail
  with_reducible refine (HCK.out).mono ?_
  clear HCK
  rintro e w2 ⟨rfl, hb2⟩
  have hbk2 : Bk w2 hb 263 #[.slice x.kA x.kn x.kc, .slice x.gA x.gn x.gc, .slice x.iA x.im x.ic, .slice dA dn dc, .slice gA gn gc] := Bk.below (Bk.below HH.out.bk HB1.out hbw) hb2 (by have := HB1.out.size; omega)
  have hbx2 := HBX.out.below hb2 HBX.out.lt
  have HB2 := Lib.hid hb2
  have c0 : w2.cell? ⟨hb, 0, none⟩ = some (.slice x.kA x.kn x.kc) := hbk2.cell 0
  have c1 : w2.cell? ⟨hb, 1, none⟩ = some (.slice x.gA x.gn x.gc) := hbk2.cell 1
  have c2 : w2.cell? ⟨hb, 2, none⟩ = some (.slice x.iA x.im x.ic) := hbk2.cell 2
  have d0 : w2.cell? ⟨w.heap.size, 0, none⟩ = some (.slice v.kA v.kn v.kc) := hbx2.cell 0
  have d1 : w2.cell? ⟨w.heap.size, 1, none⟩ = some (.slice v.gA v.gn v.gc) := hbx2.cell 1
  have d2 : w2.cell? ⟨w.heap.size, 2, none⟩ = some (.slice v.iA v.im v.ic) := hbx2.cell 2
  clear hb2 a0 a1 a2
  go_upto_if 20 with fail
  go_cut [20] from 15 to 19 (fun bv wx => bv = .bool false ∧ Hid (Below W1.heap.size W1 wx))
  case first =>
    go_region_law
      (go_simp
       go_at_call 38
       (with_reducible refine (HSM.out _ ?hb).mono ?_)
       case hb => (repeat' first | exact HB2.out | refine Below.drew ?_)
       rintro e w3 ⟨rfl, hb3⟩)
    all_goals
      have HB3 : Hid (Below W1.heap.size W1 w3) := Lib.hid (by first | exact Below.tr HB2.out hb3 | exact Below.tr HB2.out.drew hb3)
      go_wp2_with fail
      go_meet
      case rel => exact ⟨rfl, HB3⟩
  case rest =>
    obtain ⟨rfl, HB3⟩ := hcut
    obtain ⟨wu, rfl⟩ : ∃ z, z = wc := ⟨_, rfl⟩
    have hbk3 : Bk wu hb 263 #[.slice x.kA x.kn x.kc, .slice x.gA x.gn x.gc, .slice x.iA x.im x.ic, .slice dA dn dc, .slice gA gn gc] := Bk.below (Bk.below HH.out.bk HB1.out hbw) HB3.out (by have := HB1.out.size; omega)
    have hbx3 := HBX.out.below HB3.out HBX.out.lt
    have k0 : wu.cell? ⟨hb, 0, none⟩ = some (.slice x.kA x.kn x.kc) := hbk3.cell 0
    have k1 : wu.cell? ⟨hb, 1, none⟩ = some (.slice x.gA x.gn x.gc) := hbk3.cell 1
    have k2 : wu.cell? ⟨hb, 2, none⟩ = some (.slice x.iA x.im x.ic) := hbk3.cell 2
    have l0 : wu.cell? ⟨w.heap.size, 0, none⟩ = some (.slice v.kA v.kn v.kc) := hbx3.cell 0
    have l1 : wu.cell? ⟨w.heap.size, 1, none⟩ = some (.slice v.gA v.gn v.gc) := hbx3.cell 1
    have l2 : wu.cell? ⟨w.heap.size, 2, none⟩ = some (.slice v.iA v.im v.ic) := hbx3.cell 2
    have m0 : (wu.alloc (.cells #[.string ⟨#[]⟩, .slice none 0 0, .slice none 0 0] 265)).cell? ⟨hb, 0, none⟩ = some (.slice x.kA x.kn x.kc) := (hbk3.alloc _).cell 0
    have m1 : (wu.alloc (.cells #[.string ⟨#[]⟩, .slice none 0 0, .slice none 0 0] 265)).cell? ⟨hb, 1, none⟩ = some (.slice x.gA x.gn x.gc) := (hbk3.alloc _).cell 1
    have m2 : (wu.alloc (.cells #[.string ⟨#[]⟩, .slice none 0 0, .slice none 0 0] 265)).cell? ⟨hb, 2, none⟩ = some (.slice x.iA x.im x.ic) := (hbk3.alloc _).cell 2
    have n0 : (wu.alloc (.cells #[.string ⟨#[]⟩, .slice none 0 0, .slice none 0 0] 265)).cell? ⟨w.heap.size, 0, none⟩ = some (.slice v.kA v.kn v.kc) := (hbx3.alloc _).cell 0
    have n1 : (wu.alloc (.cells #[.string ⟨#[]⟩, .slice none 0 0, .slice none 0 0] 265)).cell? ⟨w.heap.size, 1, none⟩ = some (.slice v.gA v.gn v.gc) := (hbx3.alloc _).cell 1
    have n2 : (wu.alloc (.cells #[.string ⟨#[]⟩, .slice none 0 0, .slice none 0 0] 265)).cell? ⟨w.heap.size, 2, none⟩ = some (.slice v.iA v.im v.ic) := (hbx3.alloc _).cell 2
    have HBK3 := Lib.hid hbk3
    have HBX3 := Lib.hid hbx3
    have hwc : w.heap.size < wu.heap.size := hbx3.lt
    clear c0 c1 c2 d0 d1 d2 hbk2 hbx2 HB2 HSM hbk3 hbx3
    go_upto_region 6 with fail
    go_cut [8, 9] from 21 to 30 (fun pv ev wx => ∃ (h8 : Nat) (s : StM), pv = .pointer (some ⟨h8, 0, none⟩) ∧ ev = .int .i64 0 ∧ Hid (Bk wx h8 265 #[.string s.nm, .slice s.oA s.on s.oc, .slice s.bA s.bn s.bc] ∧ StY wx s ∧ s.nm = nm ∧ s.ob = encD x.p v.p ∧ s.bb = encD v.p x.p ∧ h8 ≠ hb ∧ w.heap.size < h8) ∧ Hid (Below W1.heap.size W1 wx))
    case first =>
      go_region_law
        (go_simp
         go_at_call 159
         (with_reducible refine (HBT.out _ ?hb).mono ?_)
         case hb => (repeat' first | exact HB3.out | refine Below.drew ?_ | refine Below.al ?_ _)
         rintro e w4 ⟨s, rfl, HS4, hb4⟩
         have HB4 : Hid (Below W1.heap.size W1 w4) := Lib.hid (Below.tr (by repeat' first | exact HB3.out | refine Below.drew ?_ | refine Below.al ?_ _) hb4)
         try (have z4 : Bk w4 wu.heap.size 265 #[.string ⟨#[]⟩, .slice none 0 0, .slice none 0 0] := Bk.below (by first | exact Bk.new _ _ _ | exact Bk.drew (Bk.new _ _ _)) hb4 (by first | (simp; done) | (show _ < (wu.alloc _).heap.size; simp))
              have z40 : w4.cell? ⟨wu.heap.size, 0, none⟩ = some (.string ⟨#[]⟩) := z4.cell 0
              have z41 : w4.cell? ⟨wu.heap.size, 1, none⟩ = some (.slice none 0 0) := z4.cell 1
              have z42 : w4.cell? ⟨wu.heap.size, 2, none⟩ = some (.slice none 0 0) := z4.cell 2
              have y40 := z4.frozen 0
              have y41 := z4.frozen 1
              have y42 := z4.frozen 2))
      all_goals
        have hz4 : wu.heap.size ≤ w4.heap.size := by have := hb4.size; first | exact this | (simp at this; omega)
        go_wp2_with fail
        go_meet
        case rel => first
          | exact ⟨_, s, rfl, rfl, Lib.hid ⟨by first | exact Bk.new _ _ _ | exact Bk.drew (Bk.new _ _ _), HS4.out.1.keep (F := []) (by first | exact (Kx.refl (B := 0)).alloc _ | exact ((Kx.refl (B := 0)).alloc _).drew) (by simp), HS4.out.2.1, HS4.out.2.2.1, HS4.out.2.2.2, by omega, by omega⟩, Lib.hid (by repeat' first | exact HB4.out | refine Below.drew ?_ | refine Below.al ?_ _)⟩
          | exact ⟨_, s, rfl, rfl, Lib.hid ⟨by first | exact ((z4.set_ 0 _).set_ 1 _).set_ 2 _ | exact Bk.drew (((z4.set_ 0 _).set_ 1 _).set_ 2 _), HS4.out.1.keep (F := [265]) (((Kx.refl (B := 0) (F := [265])).set z4 (Nat.zero_le _) (by simp) 0 (Value.string s.nm)).set (z4.set_ 0 _) (Nat.zero_le _) (by simp) 1 (Value.slice s.oA s.on s.oc) |>.set ((z4.set_ 0 _).set_ 1 _) (Nat.zero_le _) (by simp) 2 (Value.slice s.bA s.bn s.bc)) (by decide), HS4.out.2.1, HS4.out.2.2.1, HS4.out.2.2.2, by omega, by omega⟩, Lib.hid (((HB4.out.setCell (p := ⟨wu.heap.size, 0, none⟩) HB3.out.size _).setCell (p := ⟨wu.heap.size, 1, none⟩) HB3.out.size _).setCell (p := ⟨wu.heap.size, 2, none⟩) HB3.out.size _)⟩
    case rest =>
      obtain ⟨h8, s, rfl, rfl, HS, HB5⟩ := hcut
      have hbx5 := HBX.out.below HB5.out HBX.out.lt
      have hwc5 : w.heap.size < wc.heap.size := hbx5.lt
      have l0 : wc.cell? ⟨w.heap.size, 0, none⟩ = some (.slice v.kA v.kn v.kc) := hbx5.cell 0
      have l1 : wc.cell? ⟨w.heap.size, 1, none⟩ = some (.slice v.gA v.gn v.gc) := hbx5.cell 1
      have l2 : wc.cell? ⟨w.heap.size, 2, none⟩ = some (.slice v.iA v.im v.ic) := hbx5.cell 2
      have HC5 := Lib.hid (HCP.out wc HB5.out)
      clear hbx5 HCP HBT HBK3 HBX3
      go_wp2_with fail
      with_reducible refine (HC5.out).mono ?_
      clear HC5
      rintro e w6 ⟨y, rfl, hy6, hyp, hb6⟩
      have HB6 : Hid (Below W1.heap.size W1 w6) := Lib.hid (Below.tr HB5.out hb6)
      have HW6 : Hid (Below w.heap.size w w6) := Lib.hid (HB1.out.trans (HB6.out.mono HB1.out.size))
      have hbk6 : Bk w6 hb 263 #[.slice x.kA x.kn x.kc, .slice x.gA x.gn x.gc, .slice x.iA x.im x.ic, .slice dA dn dc, .slice gA gn gc] := Bk.below HH.out.bk HW6.out hbw
      have h86 : Bk w6 h8 265 #[.string s.nm, .slice s.oA s.on s.oc, .slice s.bA s.bn s.bc] := HS.out.1.below hb6 HS.out.1.lt
      obtain ⟨W7, hW7⟩ : ∃ W7, W7 = (((w6.setCell ⟨hb, 0, none⟩ (.slice y.kA y.kn y.kc)).setCell ⟨hb, 1, none⟩ (.slice y.gA y.gn y.gc)).setCell ⟨hb, 2, none⟩ (.slice y.iA y.im y.ic)).setCell ⟨hb, 4, none⟩ (.slice none 0 0) := ⟨_, rfl⟩
      have z0 := hbk6.set_ 0 (Value.slice y.kA y.kn y.kc)
      have z1 := z0.set_ 1 (Value.slice y.gA y.gn y.gc)
      have z2 := z1.set_ 2 (Value.slice y.iA y.im y.ic)
      have hbk7 : Bk W7 hb 263 #[.slice y.kA y.kn y.kc, .slice y.gA y.gn y.gc, .slice y.iA y.im y.ic, .slice dA dn dc, .slice none 0 0] := by rw [hW7]; exact z2.set_ 4 _
      have hlo := HH.out.lo
      have hK7 : Kx base [263] w6 W7 := by rw [hW7]; exact ((((Kx.refl (B := base)).set hbk6 hlo (by simp) 0 _).set z0 hlo (by simp) 1 _).set z1 hlo (by simp) 2 _).set z2 hlo (by simp) 4 _
      have hK70 : Kx 0 [263] w6 W7 := hK7.mono (Nat.zero_le _) (fun _ h => h)
      have h87 : Bk W7 h8 265 #[.string s.nm, .slice s.oA s.on s.oc, .slice s.bA s.bn s.bc] := hK70.bk h86 (by decide)
      have hy7 : WdY W7 0 y := hy6.keep hK70 (by decide) (by decide) (by decide) (by decide) (by decide)
      have hst7 : StY W7 s := (HS.out.2.1.keep (Kx.of_below (B := 0) (F := [263]) hb6) (by decide)).keep hK70 (by decide)
      have hrow : RowM W7 base dA dn dc D := (HH.out.d.keep (Kx.of_below (B := 0) (F := [263]) HW6.out) (by decide) (by decide)).keep hK70 (by decide) (by decide)
      have hK07 : Kx base [263, 265] w W7 := ((Kx.of_below HW6.out).trans (hK7.mono (Nat.le_refl _) (fun t h => by simp at h; simp [h])))
      have hos : W7.os = w.os ∧ W7.tape = w.tape ∧ W7.output = w.output := by rw [hW7]; exact ⟨HW6.out.os, HW6.out.tape, HW6.out.output⟩
      have u0 : w6.cell? ⟨hb, 0, none⟩ = some (.slice x.kA x.kn x.kc) := hbk6.cell 0
      have u1 : w6.cell? ⟨hb, 1, none⟩ = some (.slice x.gA x.gn x.gc) := hbk6.cell 1
      have u2 : w6.cell? ⟨hb, 2, none⟩ = some (.slice x.iA x.im x.ic) := hbk6.cell 2
      have u4 : w6.cell? ⟨hb, 4, none⟩ = some (.slice gA gn gc) := hbk6.cell 4
      have v0 := hbk6.frozen 0
      have v1 := hbk6.frozen 1
      have v2 := hbk6.frozen 2
      have v4 := hbk6.frozen 4
      have HW7 := Lib.hid hW7
      have HBK7 := Lib.hid hbk7
      have H87 := Lib.hid h87
      have HY7 := Lib.hid (And.intro hy7 hyp)
      have HST7 := Lib.hid hst7
      have HRW7 := Lib.hid hrow
      have HK07 := Lib.hid hK07
      have HOS := Lib.hid hos
      clear hW7 hbk7 h87 hy7 hst7 hrow hK07 hos z0 z1 z2 hK7 hK70 h86 hbk6 hb6 hy6 hyp
      go_upto_region 10 with fail
      rw [← HW7.out]
      clear HW7 u0 u1 u2 u4 v0 v1 v2 v4
      have hw7 : base ≤ W7.heap.size := by have := HK07.out.size; omega
      have c3 : W7.cell? ⟨hb, 3, none⟩ = some (.slice dA dn dc) := HBK7.out.cell 3
      have q3 : (W7.alloc (.cells #[.string s.nm, .slice s.oA s.on s.oc, .slice s.bA s.bn s.bc] 265)).cell? ⟨hb, 3, none⟩ = some (.slice dA dn dc) := (HBK7.out.alloc _).cell 3
      have m0 : W7.cell? ⟨h8, 0, none⟩ = some (.string s.nm) := H87.out.cell 0
      have m1 : W7.cell? ⟨h8, 1, none⟩ = some (.slice s.oA s.on s.oc) := H87.out.cell 1
      have m2 : W7.cell? ⟨h8, 2, none⟩ = some (.slice s.bA s.bn s.bc) := H87.out.cell 2
      have HGR : Hid (RowM (W7.alloc (.cells #[.string s.nm, .slice s.oA s.on s.oc, .slice s.bA s.bn s.bc] 265)).drew base dA dn dc D) := Lib.hid (HRW7.out.keep ((Kx.refl (B := 0) (F := [])).alloc _).drew (by simp) (by simp))
      go_region_law
        (refine step_append_st (c1 := 1) (cs := #[.string s.nm, .slice s.oA s.on s.oc, .slice s.bA s.bn s.bc]) rfl (.tmp 46) (.tmp 48) rfl HGR.out rfl rfl (Bk.drew (Bk.new W7 265 _)) rfl ?c1 ?c2 ?c3 ?_
         case c1 => simp [Value.oneCell']
         case c2 => omega
         case c3 => (show base ≤ (W7.alloc _).heap.size; simp; omega)
         intro g9 o9 c9 w9 hown9 hg9 hat9
         have hb9 := (Bk.drew (HBK7.out.alloc (.cells #[.string s.nm, .slice s.oA s.on s.oc, .slice s.bA s.bn s.bc] 265))).grown hg9 (fun e => by obtain ⟨_, cs, h1⟩ := HGR.out.ty hb e.symm; exact Bk.ne_ h1 (Bk.drew (HBK7.out.alloc _)) (by decide) rfl)
         have k3 : w9.cell? ⟨hb, 3, none⟩ = some (.slice dA dn dc) := hb9.cell 3
         have f3 := hb9.frozen 3)
      all_goals
        have HF := Lib.hid (hist_grow HBK7.out HY7.out.1 (RowM.nil0 W7 base) HGR.out HST7.out hown9 hg9 hat9 (fun q hq => by simp [Value.ownBlock] at hq))
        have HOS9 := Lib.hid (And.intro hg9.os (And.intro hg9.tape hg9.output))
        clear hown9 hg9 hat9 hb9
        have hK9 : ∀ u, Kx base [263] w9 (w9.setCell ⟨hb, 3, none⟩ u) := fun u => (Kx.refl (B := base) (F := [263])).set HF.out.2.2.2.1 HH.out.lo (by simp) 3 u
        have hc9 : dn + 1 ≤ c9 := HF.out.2.1.cap
        by_cases hdl : dn < 100
        · go_wp2_with fail
          go_ret
          have hK90 := (hK9 (Value.slice (some ⟨g9, o9, none⟩) (dn + 1) c9)).mono (B' := 0) (G := [263]) (Nat.zero_le _) (fun _ h => h)
          exact ⟨y, some ⟨g9, o9, none⟩, dn + 1, c9, s, rfl, Lib.hid ⟨⟨HF.out.2.2.2.1.set_ 3 _, HF.out.2.2.1.keep hK90 (by decide) (by decide) (by decide) (by decide) (by decide), by unfold last100; rw [if_pos hdl]; exact HF.out.2.1.keep hK90 (by decide) (by decide), HF.out.1.keep hK90 (by decide) (by decide), (fun q _ e => by simp [Value.ownBlock] at e), HH.out.lo⟩, by unfold lastN; omega, HY7.out.2, HS.out.2.2.1, HS.out.2.2.2.1, HS.out.2.2.2.2.1⟩, Lib.hid ⟨HOS9.out.1.trans HOS.out.1, HOS9.out.2.1.trans HOS.out.2.1, HOS9.out.2.2.trans HOS.out.2.2, (HK07.out.trans HF.out.2.2.2.2.2).trans ((hK9 _).mono (Nat.le_refl _) (fun t h => by simp at h; simp [h]))⟩⟩
        · have H100 : Hid (dn = 100) := Lib.hid (by omega)
          have hd1 : (100 : Int) < (dn : Int) + 1 := by omega
          have HR9 : Hid (∃ b o, some (⟨g9, o9, none⟩ : Addr) = some ⟨b, o, none⟩ ∧ RowM w9 base (some ⟨b, o + 3, none⟩) dn (c9 - 1) (D ++ [s]).tail) := Lib.hid (by
            have h1 := HF.out.2.1
            cases hD : D ++ [s] with
            | nil => simp at hD
            | cons a r => rw [hD] at h1; exact h1.tail (by omega))
          obtain ⟨bq, oq, e9, HRT0⟩ := HR9.out
          injection e9 with e9
          injection e9 with e9 e8
          subst e9 e8
          have HRT := Lib.hid HRT0
          have hc9' : ¬ (c9 = 1) := by omega
          have hc91 : 1 ≤ c9 := by omega
          have HL1 : Hid (dn = lastN dn) := Lib.hid (by have := H100.out; unfold lastN; omega)
          have HL2 : Hid (last100 dn (D ++ [s]) = (D ++ [s]).tail) := Lib.hid (by unfold last100; rw [if_neg hdl])
          clear HRT0 hdl
          go_wp2_with fail
          go_ret
          have z1 := HF.out.2.2.2.1.set_ 3 (Value.slice (some ⟨g9, o9, none⟩) (dn + 1) c9)
          have hKa := (hK9 (Value.slice (some ⟨g9, o9, none⟩) (dn + 1) c9)).set z1 HH.out.lo (by simp) 3 (Value.slice (some ⟨g9, o9 + 3, none⟩) dn (c9 - 1))
          have hK90 := hKa.mono (B' := 0) (G := [263]) (Nat.zero_le _) (fun _ h => h)
          exact ⟨rfl, ⟨y, some ⟨g9, o9 + 3, none⟩, dn, c9 - 1, s, Lib.hid ⟨⟨z1.set_ 3 _, HF.out.2.2.1.keep hK90 (by decide) (by decide) (by decide) (by decide) (by decide), by rw [HL2.out]; exact HRT.out.keep hK90 (by decide) (by decide), HF.out.1.keep hK90 (by decide) (by decide), (fun q _ e => by simp [Value.ownBlock] at e), HH.out.lo⟩, HL1.out, HY7.out.2, HS.out.2.2.1, HS.out.2.2.2.1, HS.out.2.2.2.2.1⟩⟩, Lib.hid ⟨HOS9.out.1.trans HOS.out.1, HOS9.out.2.1.trans HOS.out.2.1, HOS9.out.2.2.trans HOS.out.2.2, (HK07.out.trans HF.out.2.2.2.2.2).trans (hKa.mono (Nat.le_refl _) (fun t h => by simp at h; simp [h]))⟩⟩
end Go.Proofs.Ytnidcmhfbkdioaa
