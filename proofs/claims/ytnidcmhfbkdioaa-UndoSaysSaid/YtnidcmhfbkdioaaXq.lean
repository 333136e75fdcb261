/-
  The contract of History.Join. Conditions: worlds that can be read, of bounded sizes; numbers that fit.
-/
import Derived.Test.YtnidcmhfbkdioaaXj
namespace Go.Proofs.Ytnidcmhfbkdioaa
open Go.RowKit
set_option maxRecDepth 100000

theorem Kz.of_below {B : Nat} {w w' : World} (h : Below w.heap.size w w') : Kz B w w' := ⟨h.os, h.tape, h.output, Kx.of_below h⟩
set_option maxHeartbeats 4000000 in
theorem hjoin_bad (hb : Nat) (x : Wd) (nm : ByteArray) (dA gA : Option Addr) (dn dc gn gc base : Nat) (D G : List StM) (n : Int) (w : World) (h : HistY w hb base x dA dn dc D gA gn gc G) (hn : n < 1 ∨ (dn : Int) < n) :
    Calls Try.prog 89 #[.pointer (some ⟨hb, 0, none⟩), .string nm, .int .i64 n] w fun e w' => e = .returned (.int .i64 1) ∧ w' = w := by
  have a1 : w.cell? ⟨hb, 3, none⟩ = some (.slice dA dn dc) := Bk.cell h.bk 3
  clear h
  by_cases h1 : n < 1
  · go_enter Try.func89, Try.ntmps89
    go_wp2_with fail
    go_ret
    exact ⟨rfl, rfl⟩
  · have h2 : (dn : Int) < n := by omega
    go_enter Try.func89, Try.ntmps89
    go_wp2_with fail
    go_ret
    exact ⟨rfl, rfl⟩

theorem HistY.grown {w w' : World} {hb base dn dc gn gc xb : Nat} {x : Wd} {dA gA : Option Addr} {D G : List StM} {cs : Array Value} (h : HistY w hb base x dA dn dc D gA gn gc G) (hx : Bk w xb 263 cs) (hne : hb ≠ xb) (hg : w.grownBy w' (some xb)) : HistY w' hb base x dA dn dc D gA gn gc G := by
  have hk : Kx 0 [263] w w' := Kx.gb hg hx (Nat.zero_le _)
  exact ⟨Bk.grown h.bk hg (fun e => by injection e with e; exact hne e), h.x.keep hk (by decide) (by decide) (by decide) (by decide) (by decide), h.d.keep hk (by decide) (by decide), h.g.keep hk (by decide) (by decide), h.ne, h.lo⟩
theorem Gb.below_ {W1 w w' : World} {xb B : Nat} (h : W1.grownBy w' (some xb)) (h0 : Below B w W1) (hB : B ≤ xb) (hBw : B ≤ W1.heap.size) : Below B w w' :=
  ⟨h.os.trans h0.os, h.tape.trans h0.tape, h.output.trans h0.output, Nat.le_trans h0.size h.size, fun k hk => (h.block k (by omega) (fun e => by injection e with e; omega)).trans (h0.block k hk)⟩

set_option maxHeartbeats 8000000 in
theorem hjoin_any (hb base : Nat) (x : Wd) (nm : ByteArray) (dA gA : Option Addr) (dn dc gn gc n : Nat) (C D G : List StM) (q : Nat → Wv Kp2) (w : World) (h : HistY w hb base x dA dn dc (C ++ D) gA gn gc G) (hD : D.length = n) (hn : 1 ≤ n) (hq0 : q 0 = x.p)
    (hst : ∀ i, i < n → ∃ s, D[n - 1 - i]? = some s ∧ s.bb = encD (q i) (q (i + 1))) (hgd : ∀ i, i ≤ n → GoodW (q i)) (hok : ∀ i j, i ≤ n → j ≤ n → encOk (FW (q i)) (FW (q j))) (hdn : dn < 1000) (hbase : base ≤ w.heap.size) :
    Calls Try.prog 89 #[.pointer (some ⟨hb, 0, none⟩), .string nm, .int .i64 n] w fun e w' => e = .returned (.int .i64 0) ∧ Hid (∃ (A' : Option Addr) (n' c' : Nat) (D' : List StM), HistY w' hb base x A' n' c' (C ++ D') gA gn gc G ∧ ((q n = x.p ∧ D' = []) ∨ (q n ≠ x.p ∧ ∃ s, D' = [s] ∧ s.nm = nm ∧ s.ob = encD (q n) x.p ∧ s.bb = encD x.p (q n)))) ∧ Hid (Kz base w w') := by
  have hdl : dn = C.length + n := by have := h.d.len; rw [List.length_append, hD] at this; exact this
  have hdc : dn ≤ dc := h.d.cap
  have hbw : hb < w.heap.size := Bk.lt h.bk
  obtain ⟨at0, hat0⟩ : ∃ at0, at0 = C.length := ⟨_, rfl⟩
  rw [← hat0] at hdl
  have a0 : w.cell? ⟨hb, 0, none⟩ = some (.slice x.kA x.kn x.kc) := Bk.cell h.bk 0
  have a1 : w.cell? ⟨hb, 1, none⟩ = some (.slice x.gA x.gn x.gc) := Bk.cell h.bk 1
  have a2 : w.cell? ⟨hb, 2, none⟩ = some (.slice x.iA x.im x.ic) := Bk.cell h.bk 2
  have a3 : w.cell? ⟨hb, 3, none⟩ = some (.slice dA dn dc) := Bk.cell h.bk 3
  obtain ⟨W1, hW1⟩ : ∃ W1, W1 = w.alloc (.cells #[.slice x.kA x.kn x.kc, .slice x.gA x.gn x.gc, .slice x.iA x.im x.ic, .slice none 0 0, .slice none 0 0] 263) := ⟨_, rfl⟩
  have hb1 : Below w.heap.size w W1 := by rw [hW1]; exact Below.al (Below.refl _ _) _
  have hbx : HsB W1 w.heap.size x (.slice none 0 0) (.slice none 0 0) := by rw [hW1]; exact Bk.new _ _ _
  have hh1 : HistY W1 hb base x dA dn dc (C ++ D) gA gn gc G := h.below hb1
  obtain ⟨xb, hxb⟩ : ∃ xb, xb = w.heap.size := ⟨_, rfl⟩
  rw [← hxb] at hbx
  have hne : hb ≠ xb := by omega
  have HX := Lib.hid h.x
  have HBX := Lib.hid hbx
  have HH := Lib.hid hh1
  have HB1 := Lib.hid hb1
  have HW1 := Lib.hid hW1
  have HXB := Lib.hid hxb
  have HST := Lib.hid hst
  have HGD := Lib.hid hgd
  have HOK := Lib.hid hok
  have HQ := Lib.hid hq0
  have HD := Lib.hid hD
  have HAT := Lib.hid hat0
  have HDL := Lib.hid hdl
  have hat1 : at0 ≤ dc := by omega
  have hat2 : at0 ≤ dn := by omega
  have hn1 : ¬ ((n : Int) < 1) := by omega
  have hn2 : ¬ ((dn : Int) < n) := by have := HDL.out; omega
  clear h hW1 hb1 hbx hh1 hst hgd hok hq0 hD hxb hat0 hdl
  go_enter Try.func89, Try.ntmps89
  go_upto_region 4 with fail
  rw [← HW1.out, ← HXB.out]
  clear HW1 a0 a1 a2 a3
  go_wp2_with fail
  go_loopw [31] (fun v wr => ∃ (i : Nat) (y : Wd), i ≤ n ∧ v = .int .i64 i ∧ Hid (HsB wr xb y (.slice none 0 0) (.slice none 0 0) ∧ WdY wr 0 y ∧ y.p = q i) ∧ Hid (W1.grownBy wr (some xb))) (fun v _ => n - (intOf v).toNat)
  case atStart => exact ⟨0, x, Nat.zero_le _, rfl, Lib.hid ⟨HBX.out, HX.out.keep (Kx.of_below (B := 0) (F := []) HB1.out) (by simp) (by simp) (by simp) (by simp) (by simp), HQ.out.symm⟩, Lib.hid ⟨rfl, rfl, rfl, Nat.le_refl _, fun _ _ _ => rfl⟩⟩
  case round =>
    obtain ⟨i, y, hi, rfl, HY, HG⟩ := hrel
    have hh : HistY wr hb base x dA dn dc (C ++ D) gA gn gc G := HH.out.grown HBX.out hne HG.out
    by_cases hlt : i < n
    · obtain ⟨s, hs, hsb⟩ := HST.out i hlt
      obtain ⟨j, hj⟩ : ∃ j, j = at0 + (n - 1 - i) := ⟨_, rfl⟩
      have hsj : (C ++ D)[j]? = some s := by
        rw [List.getElem?_append_right (by have := HAT.out; omega), show j - C.length = n - 1 - i by have := HAT.out; omega]; exact hs
      obtain ⟨b, o, rfl, hbb, d0, d1, d2⟩ := hh.d.at_ hsj
      have hsY := hh.d.sts s (List.mem_of_getElem? hsj)
      have HT := Lib.hid (fun (wz : World) (hz : Below wr.heap.size wr wz) => turn_any xb y (q (i + 1)) _ _ s.bA s.bn s.bc wz (HY.out.1.far hz) (HY.out.2.1.keep (Kx.of_below (B := 0) (F := []) hz) (by simp) (by simp) (by simp) (by simp) (by simp)) (by rw [HY.out.2.2]; exact HGD.out i hi) (HGD.out (i + 1) hlt) (by rw [HY.out.2.2]; exact HOK.out i (i + 1) hi hlt) (by rw [HY.out.2.2, ← hsb]; exact hsY.b.keep (Kx.of_below (B := 0) (F := []) hz) (by simp)) (by rw [HY.out.2.2, ← hsb]; exact hsY.bn))
      have c3 : wr.cell? ⟨hb, 3, none⟩ = some (.slice (some ⟨b, o, none⟩) dn dc) := Bk.cell hh.bk 3
      have hjz : IntKind.i64.wrap ((dn : Int) - 1) = (dn : Int) - 1 := by rw [IntKind.wrap_i64]; omega
      have hjz2 : IntKind.i64.wrap ((dn : Int) - 1 - i) = (j : Int) := by have := HDL.out; rw [IntKind.wrap_i64]; omega
      have hj0 : (0 : Int) ≤ j := by omega
      have hjd : (j : Int) < dn := by have := HDL.out; omega
      have hiz : (i : Int) < n := by omega
      clear hs hsb hsj hsY hh hj
      go_wp2_with fail
      go_cut [9] from 34 to 50 (fun ev wx => ev = .int .i64 0 ∧ Hid (∃ y2, HsB wx xb y2 (.slice none 0 0) (.slice none 0 0) ∧ WdY wx 0 y2 ∧ y2.p = q (i + 1)) ∧ Hid (W1.grownBy wx (some xb)))
      case first =>
        go_region_law
          (go_simp
           go_at_call 160
           (with_reducible refine (HT.out _ ?hb).mono ?_)
           case hb => (repeat' first | exact Below.refl _ _ | refine Below.drew ?_)
           rintro e w4 ⟨y4, rfl, HY4, hg4⟩)
        all_goals
          have HG4 : Hid (W1.grownBy w4 (some xb)) := Lib.hid (by first | exact Gb.trans HG.out hg4 | exact Gb.trans (Gb.drew HG.out) hg4 | exact Gb.trans (Gb.drewN HG.out _) hg4)
          go_wp2_with fail
          go_meet
          case rel => exact ⟨rfl, Lib.hid ⟨y4, HY4.out⟩, HG4⟩
      case rest =>
        obtain ⟨rfl, HY4, HG4⟩ := hcut
        obtain ⟨y4, hy4⟩ := HY4.out
        go_wp2_with fail
        go_roundw
        case measure => simp [intOf]; omega
        case rel => exact ⟨i + 1, y4, hlt, by go_num, Lib.hid hy4, HG4⟩
    · obtain rfl : i = n := by omega
      have hbx2 : HsB wr xb y (.slice none 0 0) (.slice none 0 0) := HY.out.1
      have k0 : wr.cell? ⟨hb, 0, none⟩ = some (.slice x.kA x.kn x.kc) := Bk.cell hh.bk 0
      have k1 : wr.cell? ⟨hb, 1, none⟩ = some (.slice x.gA x.gn x.gc) := Bk.cell hh.bk 1
      have k2 : wr.cell? ⟨hb, 2, none⟩ = some (.slice x.iA x.im x.ic) := Bk.cell hh.bk 2
      have k3 : wr.cell? ⟨hb, 3, none⟩ = some (.slice dA dn dc) := Bk.cell hh.bk 3
      have l0 : wr.cell? ⟨xb, 0, none⟩ = some (.slice y.kA y.kn y.kc) := Bk.cell hbx2 0
      have l1 : wr.cell? ⟨xb, 1, none⟩ = some (.slice y.gA y.gn y.gc) := Bk.cell hbx2 1
      have l2 : wr.cell? ⟨xb, 2, none⟩ = some (.slice y.iA y.im y.ic) := Bk.cell hbx2 2
      have hatz : IntKind.i64.wrap ((dn : Int) - i) = (at0 : Int) := by have := HDL.out; rw [IntKind.wrap_i64]; omega
      have HYX : Hid (WdY wr 0 y ∧ y.p = q i ∧ WdY wr 0 x) := Lib.hid ⟨HY.out.2.1, HY.out.2.2, hh.x⟩
      have HSM : Hid (∀ wz, Below wr.heap.size wr wz → Calls Try.prog 38 #[.agg #[.slice y.kA y.kn y.kc, .slice y.gA y.gn y.gc, .slice y.iA y.im y.ic], .agg #[.slice x.kA x.kn x.kc, .slice x.gA x.gn x.gc, .slice x.iA x.im x.ic]] wz fun e w' => e = .returned (.bool (decide (q i = x.p))) ∧ Below wz.heap.size wz w') := Lib.hid (fun wz hb => by
        have := wsame_any (HYX.out.1.ok_.below hb) (HYX.out.2.2.ok_.below hb)
        rw [HYX.out.2.1] at this; exact this)
      have HBT : Hid (∀ wz, Below wr.heap.size wr wz → Calls Try.prog 159 #[.string nm, .agg #[.slice y.kA y.kn y.kc, .slice y.gA y.gn y.gc, .slice y.iA y.im y.ic], .agg #[.slice x.kA x.kn x.kc, .slice x.gA x.gn x.gc, .slice x.iA x.im x.ic]] wz (BetPost wz nm (q i) x.p)) := Lib.hid (fun wz hb => by
        have h0 := HQ.out
        have := between_any nm y x wr.heap.size wz (HYX.out.1.ok_.below hb) (HYX.out.2.2.ok_.below hb) hb.size (by rw [HYX.out.2.1]; exact HGD.out i (Nat.le_refl _)) (by rw [← h0]; exact HGD.out 0 (Nat.zero_le _)) (by rw [HYX.out.2.1, ← h0]; exact HOK.out i 0 (Nat.le_refl _) (Nat.zero_le _)) (by rw [HYX.out.2.1, ← h0]; exact HOK.out 0 i (Nat.zero_le _) (Nat.le_refl _))
        rw [HYX.out.2.1] at this; exact this)
      have HHR := Lib.hid hh
      have hgw : W1.heap.size ≤ wr.heap.size := HG.out.size
      have hw1 : w.heap.size < W1.heap.size := by rw [← HXB.out]; exact Bk.lt HBX.out
      have HBW : Hid (Below w.heap.size w wr) := Lib.hid (Gb.below_ HG.out HB1.out (by rw [HXB.out]; exact Nat.le_refl _) HB1.out.size)
      obtain ⟨sm, hsm⟩ : ∃ sm, sm = decide (q i = x.p) := ⟨_, rfl⟩
      rw [← hsm] at HSM
      have HS0 := Lib.hid hsm
      have hxw : xb < wr.heap.size := Bk.lt hbx2
      have hhw : hb < wr.heap.size := by omega
      have HBX2 := Lib.hid hbx2
      have HBK := Lib.hid (show Bk wr hb 263 #[.slice x.kA x.kn x.kc, .slice x.gA x.gn x.gc, .slice x.iA x.im x.ic, .slice dA dn dc, .slice gA gn gc] from hh.bk)
      clear hh hbx2 hsm HY
      go_upto_if 70 with fail
      go_cut [70] from 62 to 69 (fun bv wx => bv = .bool sm ∧ Hid (Below wr.heap.size wr wx))
      case first =>
        go_region_law
          (go_simp
           go_at_call 38
           (with_reducible refine (HSM.out _ ?hb).mono ?_)
           case hb => (repeat' first | exact Below.refl _ _ | refine Below.drew ?_)
           rintro e w3 ⟨rfl, hb3⟩)
        all_goals
          have HB3 : Hid (Below wr.heap.size wr w3) := Lib.hid (Below.tr (by repeat' first | exact Below.refl _ _ | refine Below.drew ?_) hb3)
          go_wp2_with fail
          go_meet
          case rel => exact ⟨rfl, HB3⟩
      case rest =>
        obtain ⟨rfl, HB3⟩ := hcut
        obtain ⟨wu, rfl⟩ : ∃ z, z = wc := ⟨_, rfl⟩
        have hbk3 := HBK.out.below HB3.out hhw
        have hbx3 := Bk.below HBX2.out HB3.out hxw
        have hwu : wr.heap.size ≤ wu.heap.size := HB3.out.size
        have hhu : HistY wu hb base x dA dn dc (C ++ D) gA gn gc G := HHR.out.below HB3.out
        cases sm with
        | true =>
          have hsame : q i = x.p := of_decide_eq_true HS0.out.symm
          have m3 : wu.cell? ⟨hb, 3, none⟩ = some (.slice dA dn dc) := hbk3.cell 3
          have f3 := hbk3.frozen 3
          have HU := Lib.hid hhu
          have HK3 := Lib.hid hbk3
          clear hhu hbk3 hbx3 k0 k1 k2 k3 l0 l1 l2
          go_wp2_with fail
          go_ret
          have hK3 := (Kx.refl (B := base) (F := [263])).set HK3.out HU.out.lo (by simp) 3 (Value.slice dA at0 at0)
          have hK30 := hK3.mono (B' := 0) (G := [263]) (Nat.zero_le _) (fun _ h => h)
          refine ⟨rfl, Lib.hid ⟨dA, at0, at0, [], ⟨HK3.out.set_ 3 _, HU.out.x.keep hK30 (by decide) (by decide) (by decide) (by decide) (by decide), ?_, HU.out.g.keep hK30 (by decide) (by decide), ?_, HU.out.lo⟩, .inl ⟨hsame, rfl⟩⟩, Lib.hid (Kz.trans (Kz.of_below (HBW.out.trans (HB3.out.mono HBW.out.size))) ⟨rfl, rfl, rfl, hK3.mono (Nat.le_refl _) (fun t h => by simp at h; simp [h])⟩)⟩
          · rw [List.append_nil]
            exact (HU.out.d.head HAT.out).keep hK30 (by decide) (by decide)
          · intro qq hq
            exact HU.out.ne qq (by cases dA <;> exact hq)
        | false =>
          have hdiff : q i ≠ x.p := of_decide_eq_false HS0.out.symm
          have m0 : wu.cell? ⟨hb, 0, none⟩ = some (.slice x.kA x.kn x.kc) := hbk3.cell 0
          have m1 : wu.cell? ⟨hb, 1, none⟩ = some (.slice x.gA x.gn x.gc) := hbk3.cell 1
          have m2 : wu.cell? ⟨hb, 2, none⟩ = some (.slice x.iA x.im x.ic) := hbk3.cell 2
          have n0 : wu.cell? ⟨xb, 0, none⟩ = some (.slice y.kA y.kn y.kc) := Bk.cell hbx3 0
          have n1 : wu.cell? ⟨xb, 1, none⟩ = some (.slice y.gA y.gn y.gc) := Bk.cell hbx3 1
          have n2 : wu.cell? ⟨xb, 2, none⟩ = some (.slice y.iA y.im y.ic) := Bk.cell hbx3 2
          have p0 : (wu.alloc (.cells #[.string ⟨#[]⟩, .slice none 0 0, .slice none 0 0] 265)).cell? ⟨hb, 0, none⟩ = some (.slice x.kA x.kn x.kc) := (hbk3.alloc _).cell 0
          have p1 : (wu.alloc (.cells #[.string ⟨#[]⟩, .slice none 0 0, .slice none 0 0] 265)).cell? ⟨hb, 1, none⟩ = some (.slice x.gA x.gn x.gc) := (hbk3.alloc _).cell 1
          have p2 : (wu.alloc (.cells #[.string ⟨#[]⟩, .slice none 0 0, .slice none 0 0] 265)).cell? ⟨hb, 2, none⟩ = some (.slice x.iA x.im x.ic) := (hbk3.alloc _).cell 2
          have r0 : (wu.alloc (.cells #[.string ⟨#[]⟩, .slice none 0 0, .slice none 0 0] 265)).cell? ⟨xb, 0, none⟩ = some (.slice y.kA y.kn y.kc) := Bk.cell (Bk.alloc hbx3 _) 0
          have r1 : (wu.alloc (.cells #[.string ⟨#[]⟩, .slice none 0 0, .slice none 0 0] 265)).cell? ⟨xb, 1, none⟩ = some (.slice y.gA y.gn y.gc) := Bk.cell (Bk.alloc hbx3 _) 1
          have r2 : (wu.alloc (.cells #[.string ⟨#[]⟩, .slice none 0 0, .slice none 0 0] 265)).cell? ⟨xb, 2, none⟩ = some (.slice y.iA y.im y.ic) := Bk.cell (Bk.alloc hbx3 _) 2
          have HU := Lib.hid hhu
          clear hhu hbk3 hbx3 k0 k1 k2 k3 l0 l1 l2
          go_upto_region 15 with fail
          go_cut [11, 12] from 81 to 93 (fun pv ev wx => ∃ (h8 : Nat) (s : StM), pv = .pointer (some ⟨h8, 0, none⟩) ∧ ev = .int .i64 0 ∧ Hid (Bk wx h8 265 #[.string s.nm, .slice s.oA s.on s.oc, .slice s.bA s.bn s.bc] ∧ StY wx s ∧ s.nm = nm ∧ s.ob = encD (q i) x.p ∧ s.bb = encD x.p (q i) ∧ wu.heap.size ≤ h8) ∧ Hid (Below wu.heap.size wu wx))
          case first =>
            go_region_law
              (go_simp
               go_at_call 159
               (with_reducible refine (HBT.out _ ?hb).mono ?_)
               case hb => (repeat' first | exact HB3.out | refine Below.drew ?_ | refine Below.al ?_ _)
               rintro e w4 ⟨s, rfl, HS4, hb4⟩
               have HB4 : Hid (Below wu.heap.size wu w4) := Lib.hid (Below.tr (by repeat' first | exact Below.refl _ _ | refine Below.drew ?_ | refine Below.al ?_ _) hb4)
               try (have z4 : Bk w4 wu.heap.size 265 #[.string ⟨#[]⟩, .slice none 0 0, .slice none 0 0] := Bk.below (by first | exact Bk.new _ _ _ | exact Bk.drew (Bk.new _ _ _)) hb4 (by first | (simp; done) | (show _ < (wu.alloc _).heap.size; simp))
                    have z40 : w4.cell? ⟨wu.heap.size, 0, none⟩ = some (.string ⟨#[]⟩) := z4.cell 0
                    have z41 : w4.cell? ⟨wu.heap.size, 1, none⟩ = some (.slice none 0 0) := z4.cell 1
                    have z42 : w4.cell? ⟨wu.heap.size, 2, none⟩ = some (.slice none 0 0) := z4.cell 2
                    have y40 := z4.frozen 0
                    have y41 := z4.frozen 1
                    have y42 := z4.frozen 2))
            all_goals
              have hz4 : wu.heap.size ≤ w4.heap.size := by have := hb4.size; first | exact this | (simp at this; omega)
              go_wp2_with fail
              go_meet
              case rel => first
                | exact ⟨_, s, rfl, rfl, Lib.hid ⟨by first | exact Bk.new _ _ _ | exact Bk.drew (Bk.new _ _ _), HS4.out.1.keep (F := []) (by first | exact (Kx.refl (B := 0)).alloc _ | exact ((Kx.refl (B := 0)).alloc _).drew) (by simp), HS4.out.2.1, HS4.out.2.2.1, HS4.out.2.2.2, by omega⟩, Lib.hid (by repeat' first | exact HB4.out | refine Below.drew ?_ | refine Below.al ?_ _)⟩
                | exact ⟨_, s, rfl, rfl, Lib.hid ⟨by first | exact ((z4.set_ 0 _).set_ 1 _).set_ 2 _ | exact Bk.drew (((z4.set_ 0 _).set_ 1 _).set_ 2 _), HS4.out.1.keep (F := [265]) (((Kx.refl (B := 0) (F := [265])).set z4 (Nat.zero_le _) (by simp) 0 (Value.string s.nm)).set (z4.set_ 0 _) (Nat.zero_le _) (by simp) 1 (Value.slice s.oA s.on s.oc) |>.set ((z4.set_ 0 _).set_ 1 _) (Nat.zero_le _) (by simp) 2 (Value.slice s.bA s.bn s.bc)) (by decide), HS4.out.2.1, HS4.out.2.2.1, HS4.out.2.2.2, by omega⟩, Lib.hid (((HB4.out.setCell (p := ⟨wu.heap.size, 0, none⟩) (Nat.le_refl _) _).setCell (p := ⟨wu.heap.size, 1, none⟩) (Nat.le_refl _) _).setCell (p := ⟨wu.heap.size, 2, none⟩) (Nat.le_refl _) _)⟩
          case rest =>
            obtain ⟨h8, s, rfl, rfl, HS, HB5⟩ := hcut
            obtain ⟨W7, rfl⟩ : ∃ z, z = wc := ⟨_, rfl⟩
            have hh7 : HistY W7 hb base x dA dn dc (C ++ D) gA gn gc G := HU.out.below HB5.out
            have hrow : RowM W7 base dA at0 at0 C := hh7.d.head HAT.out
            have hbk7 : Bk W7 hb 263 #[.slice x.kA x.kn x.kc, .slice x.gA x.gn x.gc, .slice x.iA x.im x.ic, .slice dA dn dc, .slice gA gn gc] := hh7.bk
            have c3 : W7.cell? ⟨hb, 3, none⟩ = some (.slice dA dn dc) := hbk7.cell 3
            have q3 : (W7.alloc (.cells #[.string s.nm, .slice s.oA s.on s.oc, .slice s.bA s.bn s.bc] 265)).cell? ⟨hb, 3, none⟩ = some (.slice dA dn dc) := (hbk7.alloc _).cell 3
            have t0 : W7.cell? ⟨h8, 0, none⟩ = some (.string s.nm) := HS.out.1.cell 0
            have t1 : W7.cell? ⟨h8, 1, none⟩ = some (.slice s.oA s.on s.oc) := HS.out.1.cell 1
            have t2 : W7.cell? ⟨h8, 2, none⟩ = some (.slice s.bA s.bn s.bc) := HS.out.1.cell 2
            have HGR : Hid (RowM (W7.alloc (.cells #[.string s.nm, .slice s.oA s.on s.oc, .slice s.bA s.bn s.bc] 265)).drew base dA at0 at0 C) := Lib.hid (hrow.keep ((Kx.refl (B := 0) (F := [])).alloc _).drew (by simp) (by simp))
            have HH7 := Lib.hid hh7
            have HBK7 := Lib.hid hbk7
            have hw7 : base ≤ W7.heap.size := by have := HB5.out.size; omega
            clear hh7 hrow hbk7 m0 m1 m2 n0 n1 n2 p0 p1 p2 r0 r1 r2
            go_upto_region 18 with fail
            go_region_law
              (refine step_append_st (c1 := 1) (cs := #[.string s.nm, .slice s.oA s.on s.oc, .slice s.bA s.bn s.bc]) rfl (.tmp 104) (.tmp 106) rfl HGR.out rfl rfl (Bk.drew (Bk.new W7 265 _)) rfl ?c1 ?c2 ?c3 ?_
               case c1 => simp [Value.oneCell']
               case c2 => omega
               case c3 => (show base ≤ (W7.alloc _).heap.size; simp; omega)
               intro g9 o9 c9 w9 hown9 hg9 hat9
               have hb9 := (Bk.drew (HBK7.out.alloc (.cells #[.string s.nm, .slice s.oA s.on s.oc, .slice s.bA s.bn s.bc] 265))).grown hg9 (fun e => by obtain ⟨_, cs, h1⟩ := HGR.out.ty hb e.symm; exact Bk.ne_ h1 (Bk.drew (HBK7.out.alloc _)) (by decide) rfl)
               have k3 : w9.cell? ⟨hb, 3, none⟩ = some (.slice dA dn dc) := hb9.cell 3
               have f3 := hb9.frozen 3)
            all_goals
              have HF := Lib.hid (hist_grow (hb := hb) HBK7.out HH7.out.x HH7.out.g HGR.out HS.out.2.1 hown9 hg9 hat9 (fun q hq e => HH7.out.ne q (by cases dA <;> exact e) hq))
              have HOS9 := Lib.hid (And.intro hg9.os (And.intro hg9.tape hg9.output))
              clear hown9 hg9 hat9 hb9
              go_wp2_with fail
              go_ret
              have hK9 := (Kx.refl (B := base) (F := [263])).set HF.out.2.2.2.1 HH7.out.lo (by simp) 3 (Value.slice (some ⟨g9, o9, none⟩) (at0 + 1) c9)
              have hK90 := hK9.mono (B' := 0) (G := [263]) (Nat.zero_le _) (fun _ h => h)
              have hbz : Below w.heap.size w W7 := (HBW.out.trans (HB3.out.mono HBW.out.size)).trans (HB5.out.mono (by have := HBW.out.size; omega))
              exact ⟨rfl, Lib.hid ⟨some ⟨g9, o9, none⟩, at0 + 1, c9, [s], ⟨HF.out.2.2.2.1.set_ 3 _, HF.out.2.2.1.keep hK90 (by decide) (by decide) (by decide) (by decide) (by decide), HF.out.2.1.keep hK90 (by decide) (by decide), HF.out.1.keep hK90 (by decide) (by decide), (fun q hq e => HF.out.2.2.2.2.1 q e hq), HH7.out.lo⟩, .inr ⟨hdiff, s, rfl, HS.out.2.2.1, HS.out.2.2.2.1, HS.out.2.2.2.2.1⟩⟩, Lib.hid ⟨HOS9.out.1.trans hbz.os, HOS9.out.2.1.trans hbz.tape, HOS9.out.2.2.trans hbz.output, ((Kx.of_below hbz).trans HF.out.2.2.2.2.2).trans (hK9.mono (Nat.le_refl _) (fun t h => by simp at h; simp [h]))⟩⟩
end Go.Proofs.Ytnidcmhfbkdioaa
