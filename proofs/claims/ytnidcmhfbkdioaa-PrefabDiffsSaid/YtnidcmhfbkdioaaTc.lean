/-
  Diff at another length; comparisons and copies of replacements; Replaced; the fact on templates; the walk of PrefabDiffs. Conditions: what is read can be read.
-/
import Derived.Test.YtnidcmhfbkdioaaRf
import Derived.Test.YtnidcmhfbkdioaaTa
import Derived.Test.YtnidcmhfbkdioaaTb
namespace Go.Proofs.Ytnidcmhfbkdioaa
open Go.RowKit
set_option maxRecDepth 100000

/-! ### Sk -/
set_option maxHeartbeats 2000000 in
theorem diffLen_any {w : World} {B kn kc tn tc nn wn wc : Nat} {kA TA WA : Option Addr} {ks : List Kd} {ts : List Pf} {H : List Blt} (hk : KsOk w B kA kn kc ks) (ht : PfsOk w B TA tn tc ts) (hv : TplV ks ts) (hn : nn < tn)
    (hH : buildF (ks.map Kd.p) (ts.map Pf.p) 20 nn [] = (0, H)) (hne : wn ≠ H.length) (_hwcap : wn ≤ wc) (_hwcap2 : wc ≤ 9223372036854775807) :
    Calls Try.prog 62 #[.slice kA kn kc, .slice TA tn tc, .int .i64 nn, .slice WA wn wc] w fun e w' => e = .returned (.tuple #[.slice none 0 0, .int .i64 8]) ∧ Below w.heap.size w w' := by
  have hbl := pfbuild_any hk ht hv hn (oA := none) (on := 0) (oc := 0) (ovs := []) ⟨Rd.nil_ _, rfl, Nat.le_refl _, by omega, (fun x hx => by cases hx), hk.lo⟩
  rw [show ([] : List Ov).map Ov.p = [] from rfl, hH] at hbl
  have HBLD := Lib.hid hbl
  have HNE := Lib.hid hne
  clear hk ht hv hn hH hbl hne
  go_enter Try.func62, Try.ntmps62
  go_wp2_with fail
  (with_reducible refine HBLD.out.mono ?_)
  clear HBLD
  rintro e w1 ⟨hb1, hor⟩
  rcases hor with ⟨h0, _⟩ | ⟨_, SA, sn, sc, sub, rfl, HS⟩
  · exact absurd rfl h0
  · have HS : Hid (BuI w1 w.heap.size ks SA sn sc sub ∧ sub.map Bt.p = H) := HS
    have HB1 := Lib.hid hb1
    have hsw : sn ≠ wn := by
      have h1 := HNE.out
      rw [← HS.out.2, List.length_map, ← HS.out.1.len] at h1
      exact fun h => h1 h.symm
    have t0 : ((sn : Int) != (wn : Int)) = true := by simp; omega
    have hcp := own_cap2 HS.out.1.own
    have hs1 := hcp.1
    have hs2 := hcp.2
    clear hb1 hcp HNE hsw
    go_wp2_with fail
    go_ret2
    exact ⟨rfl, HB1.out⟩

/-! ### Sm -/
theorem enters77 : ∀ (ar : Array Value) (wx : World), (callFunc 77 ar).run Try.prog wx = .ok (.enter 77 ar) wx := fun ar wx => by kernel_rfl
theorem enters80 : ∀ (ar : Array Value) (wx : World), (callFunc 80 ar).run Try.prog wx = .ok (.enter 80 ar) wx := fun ar wx => by kernel_rfl
theorem eq156 (a b c d : Int) (w : World) : Sem.run Try.prog (Op.equalIn 10000 156 (.agg #[.int .i64 a, .int .i64 b]) (.agg #[.int .i64 c, .int .i64 d])) w = .ok (decide (a = c ∧ b = d)) w := by
  have h3 := fun a b => eqi 9998 a b
  have ha : ∀ w, Sem.run Try.prog (isAgg 3) w = .ok false w := fun w => by simp [isAgg, run_underlying Try.underlying3, go_sem]
  rw [show (9998 + 1 : Nat) = 9999 from rfl] at h3
  rw [show (10000 : Nat) = 9999 + 1 from rfl]
  unfold Op.equalIn
  simp [run_underlying Try.underlying156, go_sem, ha, h3, part]
  by_cases h1 : a = c <;> by_cases h2 : b = d <;> simp [h1, h2]

set_option maxHeartbeats 1600000 in
theorem clo77_any {wx : World} {B : Nat} (x y : Ov) (hx : OvOk wx B x) (hy : OvOk wx B y) (hB : B ≤ wx.heap.size) :
    Calls Try.prog 77 #[.agg #[.slice x.pA x.pn x.pc, .int .i64 x.K, .int .i64 x.F, .int .i64 x.V], .agg #[.slice y.pA y.pn y.pc, .int .i64 y.K, .int .i64 y.F, .int .i64 y.V]] wx fun e w' => e = .returned (.int .i64 (lexC x.path y.path)) ∧ Below wx.heap.size wx w' := by
  obtain ⟨xA, xn, xc, xp, xK, xF, xV⟩ := x
  obtain ⟨yA, yn, yc, yp, yK, yF, yV⟩ := y
  show Calls Try.prog 77 #[.agg #[.slice xA xn xc, .int .i64 xK, .int .i64 xF, .int .i64 xV], .agg #[.slice yA yn yc, .int .i64 yK, .int .i64 yF, .int .i64 yV]] wx fun e w' => e = .returned (.int .i64 (lexC xp yp)) ∧ Below wx.heap.size wx w'
  obtain ⟨W2, hW2⟩ : ∃ W2, W2 = (wx.alloc (.cells #[.slice xA xn xc, .int .i64 xK, .int .i64 xF, .int .i64 xV] 158)).alloc (.cells #[.slice yA yn yc, .int .i64 yK, .int .i64 yF, .int .i64 yV] 158) := ⟨_, rfl⟩
  have hb2 : Below wx.heap.size wx W2 := by rw [hW2]; exact ((Below.refl _ _).alloc (Nat.le_refl _) _).alloc (by simp) _
  have hk1 : Bk W2 wx.heap.size 158 #[.slice xA xn xc, .int .i64 xK, .int .i64 xF, .int .i64 xV] := by rw [hW2]; exact (Bk.new _ _ _).alloc _
  have hk2 : Bk W2 (wx.heap.size + 1) 158 #[.slice yA yn yc, .int .i64 yK, .int .i64 yF, .int .i64 yV] := by
    rw [hW2]
    have h := Bk.new (wx.alloc (.cells #[.slice xA xn xc, .int .i64 xK, .int .i64 xF, .int .i64 xV] 158)) 158 #[.slice yA yn yc, .int .i64 yK, .int .i64 yF, .int .i64 yV]
    simpa using h
  obtain ⟨LX, hLX⟩ : ∃ LX, LX = lexC xp yp := ⟨_, rfl⟩
  rw [← hLX]
  have HCP : Hid (Calls Try.prog 78 #[.slice xA xn xc, .slice yA yn yc] W2 fun e w' => e = .returned (.int .i64 LX) ∧ Below W2.heap.size W2 w') := Lib.hid (by
    rw [hLX]
    refine (compare_any (B := B) (hx.rd.below (hb2.mono hB)) (hy.rd.below (hb2.mono hB)) hx.len hy.len (Nat.le_trans hx.cap hx.cap2) (Nat.le_trans hy.cap hy.cap2)).mono fun e w' h => ?_
    obtain ⟨h1, m, h2⟩ := h
    exact ⟨h1, by rw [← h2]; exact below_dn (Below.refl _ _) m⟩)
  have h00 : W2.cell? ⟨wx.heap.size, 0, none⟩ = some (.slice xA xn xc) := hk1.cell 0
  have h10 : W2.cell? ⟨wx.heap.size + 1, 0, none⟩ = some (.slice yA yn yc) := hk2.cell 0
  have HB2 := Lib.hid hb2
  clear hx hy hb2 hk1 hk2 hLX
  go_enter Try.func77, Try.ntmps77
  go_upto_region 1 with fail
  rw [← hW2]
  clear hW2
  go_wp2_with fail
  (with_reducible refine HCP.out.mono ?_)
  rintro e w6 ⟨rfl, hb6⟩
  have HB6 : Hid (Below wx.heap.size wx w6) := Lib.hid (HB2.out.trans (hb6.mono HB2.out.size))
  clear hb6 h00 h10
  go_wp2_with fail
  go_ret
  exact ⟨rfl, HB6.out⟩

set_option maxHeartbeats 1600000 in
theorem same80_any {wx : World} {B B' : Nat} (x y : Ov) (hx : OvOk wx B x) (hy : OvOk wx B' y) (hB : B ≤ wx.heap.size) (hB' : B' ≤ wx.heap.size) :
    Calls Try.prog 80 #[.agg #[.slice x.pA x.pn x.pc, .int .i64 x.K, .int .i64 x.F, .int .i64 x.V], .agg #[.slice y.pA y.pn y.pc, .int .i64 y.K, .int .i64 y.F, .int .i64 y.V]] wx fun e w' => e = .returned (.bool (decide (x.p = y.p))) ∧ Below wx.heap.size wx w' := by
  obtain ⟨xA, xn, xc, xp, xK, xF, xV⟩ := x
  obtain ⟨yA, yn, yc, yp, yK, yF, yV⟩ := y
  show Calls Try.prog 80 #[.agg #[.slice xA xn xc, .int .i64 xK, .int .i64 xF, .int .i64 xV], .agg #[.slice yA yn yc, .int .i64 yK, .int .i64 yF, .int .i64 yV]] wx fun e w' => e = .returned (.bool (decide ((xp, xK, xF, xV) = (yp, yK, yF, yV)))) ∧ Below wx.heap.size wx w'
  obtain ⟨W2, hW2⟩ : ∃ W2, W2 = (wx.alloc (.cells #[.slice xA xn xc, .int .i64 xK, .int .i64 xF, .int .i64 xV] 158)).alloc (.cells #[.slice yA yn yc, .int .i64 yK, .int .i64 yF, .int .i64 yV] 158) := ⟨_, rfl⟩
  have hb2 : Below wx.heap.size wx W2 := by rw [hW2]; exact ((Below.refl _ _).alloc (Nat.le_refl _) _).alloc (by simp) _
  have hk1 : Bk W2 wx.heap.size 158 #[.slice xA xn xc, .int .i64 xK, .int .i64 xF, .int .i64 xV] := by rw [hW2]; exact (Bk.new _ _ _).alloc _
  have hk2 : Bk W2 (wx.heap.size + 1) 158 #[.slice yA yn yc, .int .i64 yK, .int .i64 yF, .int .i64 yV] := by
    rw [hW2]
    have h := Bk.new (wx.alloc (.cells #[.slice xA xn xc, .int .i64 xK, .int .i64 xF, .int .i64 xV] 158)) 158 #[.slice yA yn yc, .int .i64 yK, .int .i64 yF, .int .i64 yV]
    simpa using h
  have HEQ := Lib.hid (equalInts_any xA yA xn xc yn yc (max B B') xp yp W2 hx.len hy.len (Nat.le_trans hx.cap hx.cap2) ((hx.rd.below (hb2.mono hB)).more (by omega)) ((hy.rd.below (hb2.mono hB')).more (by omega)))
  have h00 : W2.cell? ⟨wx.heap.size, 0, none⟩ = some (.slice xA xn xc) := hk1.cell 0
  have h10 : W2.cell? ⟨wx.heap.size + 1, 0, none⟩ = some (.slice yA yn yc) := hk2.cell 0
  have HC : Hid (∀ m, (W2.drewN m).cell? ⟨wx.heap.size, 1, none⟩ = some (.int .i64 xK) ∧ (W2.drewN m).cell? ⟨wx.heap.size, 2, none⟩ = some (.int .i64 xF) ∧ (W2.drewN m).cell? ⟨wx.heap.size, 3, none⟩ = some (.int .i64 xV) ∧ (W2.drewN m).cell? ⟨wx.heap.size + 1, 1, none⟩ = some (.int .i64 yK) ∧ (W2.drewN m).cell? ⟨wx.heap.size + 1, 2, none⟩ = some (.int .i64 yF) ∧ (W2.drewN m).cell? ⟨wx.heap.size + 1, 3, none⟩ = some (.int .i64 yV)) :=
    Lib.hid fun m => ⟨hk1.cell 1, hk1.cell 2, hk1.cell 3, hk2.cell 1, hk2.cell 2, hk2.cell 3⟩
  have HB2 := Lib.hid hb2
  have HD : Hid (decide ((xp, xK, xF, xV) = (yp, yK, yF, yV)) = (decide (xp = yp) && (decide (xK = yK ∧ xF = yF) && decide (xV = yV)))) := Lib.hid (by rw [Bool.eq_iff_iff]; simp [and_assoc])
  obtain ⟨d1, hd1⟩ : ∃ d, d = decide (xp = yp) := ⟨_, rfl⟩
  obtain ⟨d2, hd2⟩ : ∃ d, d = decide (xK = yK ∧ xF = yF) := ⟨_, rfl⟩
  obtain ⟨d3, hd3⟩ : ∃ d, d = decide (xV = yV) := ⟨_, rfl⟩
  have t3 : (xV == yV) = d3 := by rw [hd3, Bool.eq_iff_iff]; simp
  have E : ∀ w, Sem.run Try.prog (Op.equalIn 10000 156 (.agg #[.int .i64 xK, .int .i64 xF]) (.agg #[.int .i64 yK, .int .i64 yF])) w = .ok d2 w := fun w => by rw [hd2]; exact eq156 _ _ _ _ w
  rw [← hd1] at HEQ HD
  rw [← hd2, ← hd3] at HD
  rw [HD.out]
  clear hx hy hb2 hk1 hk2 hd1 hd2 hd3 HD
  go_enter Try.func80, Try.ntmps80
  go_upto_region 1 with fail
  rw [← hW2]
  clear hW2
  go_wp2_with fail
  (with_reducible refine HEQ.out.mono ?_)
  rintro e w3 ⟨rfl, m, rfl⟩
  obtain ⟨c1, c2, c3, e1, e2, e3⟩ := HC.out m
  clear h00 h10 HEQ
  cases d1
  · go_wp2_with fail
    go_ret
    exact ⟨by simp, below_dn HB2.out m⟩
  · cases d2
    · go_wp2_with fail
      go_ret
      exact ⟨by simp, below_dn HB2.out m⟩
    · cases d3
      all_goals
        go_wp2_with fail
        go_ret
        exact ⟨by simp, below_dn HB2.out m⟩

set_option maxHeartbeats 800000 in
theorem cloneOv_any (A : Option Addr) (n c B : Nat) (xs : List Value) (w : World) (hr : Rd w B 4 A n xs) (h1 : ∀ u ∈ xs, u.oneCell' = true) (hB : B ≤ w.heap.size) (hs : n * 48 ≤ 140737488355328) :
    Calls Try.prog 75 #[.slice A n c] w (RetS w 158 4 n xs) := by
  obtain ⟨i0, hi0, hz0, hz1, hz2⟩ := info_parts T.info158Q
  have hn := fun wx => Lib.run_eql_slice_nil (P := Try.prog) wx 44 158 A n c 0 0 Try.underlying44
  cases A with
  | none =>
    obtain rfl : n = 0 := by
      rcases Nat.eq_zero_or_pos n with h | h
      · exact h
      · obtain ⟨_, _, h, _⟩ := hr.2 h; cases h
    obtain rfl : xs = [] := List.eq_nil_of_length_eq_zero (by simpa using hr.1)
    go_enter Try.func75, Try.ntmps75
    go_wp2_with fail
    go_ret
    exact ⟨none, 0, by simp, World.ownsRow_nil _ _ _ _, Below.refl _ _⟩
  | some a =>
    go_enter Try.func75, Try.ntmps75
    go_wp2_with
      (at_builtin
       go_must (refine wpList_append_rd _ rfl (.tmp 5) (.tmp 6) _ rfl w.heap.size 158 i0 (.agg #[.slice none 0 0, .int .i64 0, .int .i64 0, .int .i64 0]) 4 48 Try.underlying44 hi0 hz0 hz1 hz2 rfl (by decide) (.slice (some ⟨w.heap.size, 0, none⟩) 0 0) 0 [] rfl (World.ownsRow_lit w #[] 0 (Nat.le_refl _) (by decide) rfl) B (some a) n c xs rfl (hr.below ((Below.refl B w).alloc hB _)) h1 ?c2 ?c3 ?c4 ?_)
       case c2 => unfold maxLen; omega
       case c3 => omega
       case c4 => simp
       intro A' c' w1 hown1 hg1 hat1)
    go_ret
    simp only [Nat.zero_add, List.nil_append] at hown1
    exact ⟨A', c', by simp, hown1, ((Below.refl _ _).alloc (Nat.le_refl _) _).grown hg1 (by simp) (by simp [Value.ownBlock])⟩

/-! ### Sn -/
noncomputable def rpVals : Code := (Try.f74.body.bind (findR 8)).getD .skip

set_option maxHeartbeats 8000000 in
theorem rpVals_any {x0 x2 x3 x4 x10 x11 x12 x13 x14 x15 x16 x17 x18 x19 x20 x21 x22 x23 x24 x25 x26 x27 x28 x29 x30 x31 x32 x33 x34 x35 x36 x37 x38 x39 x40 x41 x42 x43 x44 x45 x46 x47 x48 x49 x50 x51 x52 x53 x54 x55 x56 x57 x58 x59 x60 x61 x62 x63 x64 x65 x66 : Value} {Q : Exit → Act → World → Prop} {w wi : World} {B hb hc i j m oc wn wc : Nat} {OA WA : Option Addr} {lw : List Bt} {x y : Bt} {c d : Cm} {out : List Ov}
    (hw : BsOk w B WA wn wc lw) (hy : lw[i]? = some y) (hd : y.cms[j]? = some d) (hlen : d.vals.length = c.vals.length) (hval : ∀ v ∈ d.vals, (Lit.int .i64 v).wf = true) (h8 : c.n ≤ 1048576)
    (hbl : Below w.heap.size w wi) (hbk : Bk wi hb 40 #[.slice x.pA x.pn x.pc, .slice x.cA x.cn x.cc]) (hpr : RdY wi 0 3 1 x.pA x.pn (x.path.map (Value.int .i64))) (hpl : x.pn = x.path.length) (_hp1 : x.pn ≤ 1000) (hpc : x.pn ≤ x.pc) (hpc2 : x.pc ≤ 9223372036854775807)
    (hck : Bk wi hc 166 #[.int .i64 c.k, .slice c.A c.n c.c]) (hcy : CmY wi 0 c) (hO : OvI wi w.heap.size OA m oc out) (hm : (out.map Ov.p ++ valsD x.path c.k 0 c.vals d.vals).length ≤ 40)
    (hN : ∀ (y10 y11 y27 y28 y29 y30 y31 y32 y33 y34 y35 y36 y37 y38 y39 y40 y41 y42 y43 y44 y45 y46 y47 y48 y49 y50 y51 y52 y53 y54 y55 y56 y57 y58 y59 y60 y61 y62 y63 : Value) (OA' : Option Addr) (m' oc' : Nat) (out' : List Ov) (w' : World), Hid (Below w.heap.size w w' ∧ Kx 0 [158] wi w' ∧ OvI w' w.heap.size OA' m' oc' out' ∧ out'.map Ov.p = out.map Ov.p ++ valsD x.path c.k 0 c.vals d.vals) → Q .normal ⟨#[x0, .slice WA wn wc, x2, x3, x4, .slice OA' m' oc', .int .i64 (i : Int), .pointer (some ⟨hb, 0, none⟩), .int .i64 (j : Int), .pointer (some ⟨hc, 0, none⟩), y10, y11, x12, x13, x14, x15, x16, x17, x18, x19, x20, x21, x22, x23, x24, x25, x26, y27, y28, y29, y30, y31, y32, y33, y34, y35, y36, y37, y38, y39, y40, y41, y42, y43, y44, y45, y46, y47, y48, y49, y50, y51, y52, y53, y54, y55, y56, y57, y58, y59, y60, y61, y62, y63, x64, x65, x66], []⟩ w') :
    Code.wp Try.prog rpVals Q ⟨#[x0, .slice WA wn wc, x2, x3, x4, .slice OA m oc, .int .i64 (i : Int), .pointer (some ⟨hb, 0, none⟩), .int .i64 (j : Int), .pointer (some ⟨hc, 0, none⟩), x10, x11, x12, x13, x14, x15, x16, x17, x18, x19, x20, x21, x22, x23, x24, x25, x26, x27, x28, x29, x30, x31, x32, x33, x34, x35, x36, x37, x38, x39, x40, x41, x42, x43, x44, x45, x46, x47, x48, x49, x50, x51, x52, x53, x54, x55, x56, x57, x58, x59, x60, x61, x62, x63, x64, x65, x66], []⟩ wi := by
  conv => arg 2; whnf
  obtain ⟨DD, hT⟩ : ∃ DD, DD = out.map Ov.p ++ valsD x.path c.k 0 c.vals d.vals := ⟨_, rfl⟩
  rw [← hT] at hm hN
  have hT0 : DD = out.map Ov.p ++ valsD x.path c.k 0 (c.vals.drop 0) (d.vals.drop 0) := hT
  have hB := hw.lo
  have hin : i < wn := by have := (List.getElem?_eq_some_iff.1 hy).1; have := hw.len; omega
  obtain ⟨b, o, rfl, hbb, q0, q1⟩ := hw.rd.bt hin hy
  have hyo := (hw.ok y (List.mem_of_getElem? hy)).cs
  have hjn : j < y.cn := by have := (List.getElem?_eq_some_iff.1 hd).1; have := hyo.len; omega
  obtain ⟨b2, o2, hA2, hbb2, r0, r1⟩ := hyo.rd.cm hjn hd
  have hdo := (hw.ok y (List.mem_of_getElem? hy)).cs.ok d (List.mem_of_getElem? hd)
  have hwcap := hw.cap
  have hwcap2 := hw.cap2
  have hycap := hyo.cap
  have hycap2 := hyo.cap2
  have hdcap := hdo.cap
  have hdcap2 := hdo.cap2
  have hdn : d.n = c.n := by have h1 := hdo.len; have h2 := hcy.len; omega
  have hiz : (i : Int) < wn := by omega
  have hiz0 : (0 : Int) ≤ i := by omega
  have hjz : (j : Int) < y.cn := by omega
  have hjz0 : (0 : Int) ≤ j := by omega
  rw [hA2] at q1
  have HQ : Hid (∀ wz, Below w.heap.size w wz → wz.cell? ⟨b, o + i * 2 + 1, none⟩ = some (.slice (some ⟨b2, o2, none⟩) y.cn y.cc) ∧ wz.cell? ⟨b2, o2 + j * 2 + 1, none⟩ = some (.slice d.A d.n d.c)) := Lib.hid fun wz hz =>
    ⟨(World.cell?_of_block (w := w) (hz.block b (by omega))).trans q1, (World.cell?_of_block (w := w) (hz.block b2 (by omega))).trans r1⟩
  have u9 : wi.cell? ⟨hc, 1, none⟩ = some (.slice c.A c.n c.c) := hck.cell 1
  have HT := Lib.hid hT0
  have HBL := Lib.hid hbl
  have HBK := Lib.hid hbk
  have HPR := Lib.hid (And.intro hpr (And.intro hpl (And.intro hpc hpc2)))
  have HCK := Lib.hid hck
  have HCY := Lib.hid hcy
  have HO := Lib.hid hO
  have HDR := Lib.hid hdo.rd
  have HDL := Lib.hid (And.intro hdo.len (And.intro hlen hval))
  have hcl2 := hcy.cap
  have hcl3 := hcy.cap2
  obtain ⟨i5, hi5, hz50, hz51, hz52⟩ := info_parts T.info158Q
  clear hw hy hd hlen hval hbl hbk hpr hpl hpc hpc2 hck hcy hO hT hT0 hbb hyo hbb2 hdo hA2 q0 q1 r0 r1
  generalize y.cn = ycn at *
  generalize y.cc = ycc at *
  generalize hxpA : x.pA = pA at *
  generalize hxpn : x.pn = pn at *
  generalize hxpc : x.pc = pc at *
  generalize x.cA = xcA at *
  generalize x.cn = xcn at *
  generalize x.cc = xcc at *
  generalize hck : c.k = ck at *
  generalize hcA : c.A = cA at *
  generalize hcn : c.n = cn at *
  generalize hcc : c.c = cc at *
  generalize d.A = dA at *
  generalize d.c = dc at *
  generalize d.n = dn at *
  subst hdn
  have HCV := Lib.hid (And.intro hck (And.intro hcA (And.intro hcn hcc)))
  have HXV := Lib.hid (And.intro hxpA (And.intro hxpn hxpc))
  clear hck hcA hcn hcc hxpA hxpn hxpc
  go_wp2_with fail
  go_loopw [5, 30] (fun av iv wx => ∃ (k m3 c3 : Nat) (A3 : Option Addr), k ≤ dn ∧ iv = .int .i64 k ∧ av = .slice A3 m3 c3 ∧ m3 ≤ 40 ∧ Hid (∃ l3, OvI wx w.heap.size A3 m3 c3 l3 ∧ DD = l3.map Ov.p ++ valsD x.path ck k (c.vals.drop k) (d.vals.drop k)) ∧ Hid (Below w.heap.size w wx) ∧ Hid (Kx 0 [158] wi wx)) (fun _ iv _ => dn - (intOf iv).toNat)
  case atStart =>
    refine ⟨0, m, oc, OA, Nat.zero_le _, rfl, rfl, ?_, Lib.hid ⟨out, HO.out, HT.out⟩, HBL, Lib.hid Kx.refl⟩
    have h1 := HT.out
    have h2 := HO.out.len
    rw [h1, List.length_append, List.length_map] at hm
    omega
  case round =>
    clear HT HO HBL u9
    obtain ⟨k, m3, c3, A3, hk, rfl, rfl, hm3, HI, HW, HX⟩ := hrel
    obtain ⟨l3, hI3, hT3⟩ := HI.out
    by_cases hlt : k < dn
    · have hkz : (k : Int) < dn := by omega
      have hkz0 : (0 : Int) ≤ k := by omega
      obtain ⟨dv, hdv⟩ : ∃ dv, d.vals[k]? = some dv := ⟨_, List.getElem?_eq_getElem (by have := HDL.out.1; omega)⟩
      obtain ⟨cv, hcv⟩ : ∃ cv, c.vals[k]? = some cv := ⟨_, List.getElem?_eq_getElem (by have := HDL.out.1; have := HDL.out.2.1; omega)⟩
      have hgd : (d.vals.map (Value.int .i64))[k]? = some (.int .i64 dv) := by rw [List.getElem?_map, hdv]; rfl
      have hgc : (c.vals.map (Value.int .i64))[k]? = some (.int .i64 cv) := by rw [List.getElem?_map, hcv]; rfl
      obtain ⟨b3, o3, rfl, hbb3, u0⟩ := (HDR.out.below (HW.out.mono hB)).at1 hlt hgd
      have hcyw := HCY.out.keep HX.out (by decide)
      have hcrd := hcyw.rd.rd
      rw [HCV.out.2.1, HCV.out.2.2.1] at hcrd
      obtain ⟨b4, o4, rfl, hbb4, u1⟩ := hcrd.at1 hlt hgc
      have p0 := (HQ.out wr HW.out).1
      have p1 := (HQ.out wr HW.out).2
      have hckw := HX.out.bk HCK.out (by decide)
      have hbkw := HX.out.bk HBK.out (by decide)
      have u2 : wr.cell? ⟨hc, 1, none⟩ = some (.slice (some ⟨b4, o4, none⟩) dn cc) := hckw.cell 1
      have hTd := hT3
      rw [valsD_drop hcv hdv k] at hTd
      have hvw := HDL.out.2.2 dv (List.mem_of_getElem? hdv)
      have HHC := Lib.hid hckw
      have HHB := Lib.hid hbkw
      have HTD := Lib.hid hTd
      have HVW := Lib.hid hvw
      clear hdv hcv hgd hgc hbb3 hbb4 hcyw hcrd hckw hbkw hTd hvw hT3
      by_cases hne : dv = cv
      · subst hne
        have t0 : (dv != dv) = false := by simp
        have HT4 : Hid (∃ l3, OvI wr w.heap.size A3 m3 c3 l3 ∧ DD = l3.map Ov.p ++ valsD x.path ck (k + 1) (c.vals.drop (k + 1)) (d.vals.drop (k + 1))) := Lib.hid ⟨l3, hI3, by have h := HTD.out; rw [if_neg (by simp)] at h; exact h⟩
        clear hI3
        go_wp2_with fail
        go_roundw
        case measure => simp [intOf]; omega
        case rel => exact ⟨k + 1, m3, c3, A3, by omega, by go_num, rfl, hm3, HT4, HW, HX⟩
      · have t0 : (dv != cv) = true := by simp [hne]
        have hTn : DD = (l3.map Ov.p ++ [(x.path, ck, (k : Int), dv)]) ++ valsD x.path ck (k + 1) (c.vals.drop (k + 1)) (d.vals.drop (k + 1)) := by
          have h := HTD.out; rw [if_pos hne] at h; rw [h, List.append_assoc]
        have hl3 := hI3.len
        have hm4 : m3 + 1 ≤ 40 := by
          rw [hTn, List.length_append, List.length_append, List.length_map] at hm
          simp at hm
          omega
        have hwsz : w.heap.size ≤ wr.heap.size := HW.out.size
        have HI3 := Lib.hid hI3
        have HTN := Lib.hid hTn
        have d1 : wr.cell? ⟨hb, 0, none⟩ = some (.slice pA pn pc) := HHB.out.cell 0
        have d2 : wr.cell? ⟨hc, 0, none⟩ = some (.int .i64 ck) := HHC.out.cell 0
        clear hTn hl3 hI3 HTD HI
        go_upto_region 13 with fail
        clear u0 u1 u2 p0 p1
        go_wp2_with
          (at_builtin
           go_must (refine wpList_append_one _ rfl (.tmp 52) (.tmp 61) 44 rfl w.heap.size 158 i5 (.agg #[.slice none 0 0, .int .i64 0, .int .i64 0, .int .i64 0]) 4 48 Try.underlying44 hi5 hz50 hz51 hz52 rfl (by decide) (.slice A3 m3 c3) m3 (ovCs l3) rfl (HI3.out.own.alloc _) wr.heap.size 1 158 #[.slice pA pn pc, .int .i64 ck, .int .i64 k, .int .i64 dv] rfl (Bk.new wr _ _) rfl ?c1 (m3 + 1) rfl ?c2 ?c3 ?c4 ?_)
           case c1 => simp [Value.oneCell']
           case c2 => unfold maxLen; omega
           case c3 => omega
           case c4 => (simp; omega)
           intro g7 c7 w7 hown7 hg7 hat7
           have hk2 : Kx 0 [158] wr w7 := ((Kx.refl (B := 0)).alloc _).grown (HI3.out.own.alloc _) hg7 (Nat.zero_le _) (by simp)
           have HIN : Hid (∃ l4, OvI w7 w.heap.size (some ⟨g7, 0, none⟩) (m3 + 1) c7 l4 ∧ DD = l4.map Ov.p ++ valsD x.path ck (k + 1) (c.vals.drop (k + 1)) (d.vals.drop (k + 1))) := Lib.hid (by
             refine ⟨l3 ++ [⟨pA, pn, pc, x.path, ck, (k : Int), dv⟩], ⟨?_, by rw [List.length_append, ← HI3.out.len]; rfl, fun z hz => ?_⟩, ?_⟩
             · rw [show ovCs (l3 ++ [(⟨pA, pn, pc, x.path, ck, (k : Int), dv⟩ : Ov)]) = ovCs l3 ++ (#[Value.slice pA pn pc, .int .i64 ck, .int .i64 k, .int .i64 dv] : Array Value).toList by simp [ovCs, Ov.cs]]
               exact hown7
             · rcases List.mem_append.1 hz with hz | hz
               · exact (HI3.out.ok z hz).keep hk2 (by decide)
               · rw [List.mem_singleton.1 hz]
                 refine ⟨(HPR.out.1.keep HX.out (by decide)).keep hk2 (by decide), HPR.out.2.1, HPR.out.2.2.1, HPR.out.2.2.2, ?_, ?_, HVW.out⟩
                 · have h := HCY.out.wf; rw [HCV.out.1] at h; exact h
                 · exact wf_i64Q (by show _ ≤ ((k : Nat) : Int); omega) (by show ((k : Nat) : Int) ≤ _; omega)
             · rw [List.map_append]; exact HTN.out)
           have HBN : Hid (Below w.heap.size w w7) := Lib.hid (HW.out.trans (((Below.refl _ _).alloc hwsz _).trans ⟨hg7.os, hg7.tape, hg7.output, hg7.size, fun q hq => hg7.block q (by simp; omega) (fun e => by have := (HI3.out.own.lt q e.symm).1; omega)⟩))
           have HXN : Hid (Kx 0 [158] wi w7) := Lib.hid (HX.out.trans hk2)
           clear hk2 hown7 hg7 hat7 d1 d2)
        go_roundw
        case rel => exact ⟨k + 1, m3 + 1, c7, some ⟨g7, 0, none⟩, by omega, by go_num, rfl, hm4, HIN, HBN, HXN⟩
        case measure => simp [intOf]; omega
    · obtain rfl : k = dn := by omega
      have HP : Hid (Below w.heap.size w wr ∧ Kx 0 [158] wi wr ∧ OvI wr w.heap.size A3 m3 c3 l3 ∧ l3.map Ov.p = DD) := Lib.hid ⟨HW.out, HX.out, hI3, by rw [hT3, valsD_end (by have := HDL.out.1; have := HDL.out.2.1; omega), List.append_nil]⟩
      clear hI3 hT3
      go_wp2_with fail
      exact hN _ _ _ _ _ _ _ _ _ _ _ _ _ _ _ _ _ _ _ _ _ _ _ _ _ _ _ _ _ _ _ _ _ _ _ _ _ _ _ A3 m3 c3 l3 _ HP

noncomputable def rpComps : Code := (Try.f74.body.bind (findR 5)).getD .skip

set_option maxHeartbeats 8000000 in
theorem rpComps_any {x0 x2 x3 x4 x8 x9 x10 x11 x12 x13 x14 x15 x16 x17 x18 x19 x20 x21 x22 x23 x24 x25 x26 x27 x28 x29 x30 x31 x32 x33 x34 x35 x36 x37 x38 x39 x40 x41 x42 x43 x44 x45 x46 x47 x48 x49 x50 x51 x52 x53 x54 x55 x56 x57 x58 x59 x60 x61 x62 x63 x64 x65 x66 : Value} {Q : Exit → Act → World → Prop} {w wi : World} {B hb i m oc wn wc : Nat} {OA WA : Option Addr} {lw : List Bt} {x y : Bt} {out : List Ov}
    (hw : BsOk w B WA wn wc lw) (hy : lw[i]? = some y) (hsh : (x.cms.map Cm.p).map shC = (y.cms.map Cm.p).map shC) (hval : ∀ d ∈ y.cms, ∀ v ∈ d.vals, (Lit.int .i64 v).wf = true) (h8 : ∀ c ∈ x.cms, c.n ≤ 1048576)
    (hbl : Below w.heap.size w wi) (hbk : Bk wi hb 40 #[.slice x.pA x.pn x.pc, .slice x.cA x.cn x.cc]) (hpr : RdY wi 0 3 1 x.pA x.pn (x.path.map (Value.int .i64))) (hpl : x.pn = x.path.length) (hp1 : x.pn ≤ 1000) (hpc : x.pn ≤ x.pc) (hpc2 : x.pc ≤ 9223372036854775807)
    (hcs : CsY wi 0 x.cA x.cn x.cc x.cms) (hO : OvI wi w.heap.size OA m oc out) (hm : (out.map Ov.p ++ cmsD x.path (x.cms.map Cm.p) (y.cms.map Cm.p)).length ≤ 40)
    (hN : ∀ (y8 y9 y10 y11 y19 y20 y21 y22 y23 y24 y25 y26 y27 y28 y29 y30 y31 y32 y33 y34 y35 y36 y37 y38 y39 y40 y41 y42 y43 y44 y45 y46 y47 y48 y49 y50 y51 y52 y53 y54 y55 y56 y57 y58 y59 y60 y61 y62 y63 y64 : Value) (OA' : Option Addr) (m' oc' : Nat) (out' : List Ov) (w' : World), Hid (Below w.heap.size w w' ∧ Kx 0 [158] wi w' ∧ OvI w' w.heap.size OA' m' oc' out' ∧ out'.map Ov.p = out.map Ov.p ++ cmsD x.path (x.cms.map Cm.p) (y.cms.map Cm.p)) → Q .normal ⟨#[x0, .slice WA wn wc, x2, x3, x4, .slice OA' m' oc', .int .i64 (i : Int), .pointer (some ⟨hb, 0, none⟩), y8, y9, y10, y11, x12, x13, x14, x15, x16, x17, x18, y19, y20, y21, y22, y23, y24, y25, y26, y27, y28, y29, y30, y31, y32, y33, y34, y35, y36, y37, y38, y39, y40, y41, y42, y43, y44, y45, y46, y47, y48, y49, y50, y51, y52, y53, y54, y55, y56, y57, y58, y59, y60, y61, y62, y63, y64, x65, x66], []⟩ w') :
    Code.wp Try.prog rpComps Q ⟨#[x0, .slice WA wn wc, x2, x3, x4, .slice OA m oc, .int .i64 (i : Int), .pointer (some ⟨hb, 0, none⟩), x8, x9, x10, x11, x12, x13, x14, x15, x16, x17, x18, x19, x20, x21, x22, x23, x24, x25, x26, x27, x28, x29, x30, x31, x32, x33, x34, x35, x36, x37, x38, x39, x40, x41, x42, x43, x44, x45, x46, x47, x48, x49, x50, x51, x52, x53, x54, x55, x56, x57, x58, x59, x60, x61, x62, x63, x64, x65, x66], []⟩ wi := by
  conv => arg 2; whnf
  obtain ⟨DD, hT⟩ : ∃ DD, DD = out.map Ov.p ++ cmsD x.path (x.cms.map Cm.p) (y.cms.map Cm.p) := ⟨_, rfl⟩
  rw [← hT] at hm hN
  have hT0 : DD = out.map Ov.p ++ cmsD x.path ((x.cms.map Cm.p).drop 0) ((y.cms.map Cm.p).drop 0) := hT
  have hB := hw.lo
  have hccap := hcs.cap
  have hccap2 := hcs.cap2
  have d1 : wi.cell? ⟨hb, 1, none⟩ = some (.slice x.cA x.cn x.cc) := hbk.cell 1
  have HW := Lib.hid hw
  have HY := Lib.hid hy
  have HSH := Lib.hid hsh
  have HVL := Lib.hid hval
  have H8 := Lib.hid h8
  have HDD := Lib.hid hT0
  have HBL := Lib.hid hbl
  have HBK := Lib.hid hbk
  have HPR := Lib.hid (And.intro hpr (And.intro hpl (And.intro hp1 (And.intro hpc hpc2))))
  have HCS := Lib.hid hcs
  have HO := Lib.hid hO
  clear hw hy hsh hval h8 hbl hbk hpr hpl hp1 hpc hpc2 hcs hO hT hT0
  obtain ⟨cA, hcA⟩ : ∃ cA, cA = x.cA := ⟨_, rfl⟩
  obtain ⟨cn, hcn⟩ : ∃ cn, cn = x.cn := ⟨_, rfl⟩
  obtain ⟨cc, hcc⟩ : ∃ cc, cc = x.cc := ⟨_, rfl⟩
  rw [← hcA, ← hcn, ← hcc] at d1
  rw [← hcn, ← hcc] at hccap
  rw [← hcc] at hccap2
  have HCV := Lib.hid (And.intro hcA (And.intro hcn hcc))
  clear hcA hcn hcc
  go_wp2_with fail
  go_loopw [5, 22] (fun av iv wx => ∃ (k m3 c3 : Nat) (A3 : Option Addr), k ≤ cn ∧ iv = .int .i64 k ∧ av = .slice A3 m3 c3 ∧ Hid (∃ l3, OvI wx w.heap.size A3 m3 c3 l3 ∧ DD = l3.map Ov.p ++ cmsD x.path ((x.cms.map Cm.p).drop k) ((y.cms.map Cm.p).drop k)) ∧ Hid (Below w.heap.size w wx) ∧ Hid (Kx 0 [158] wi wx)) (fun _ iv _ => cn - (intOf iv).toNat)
  case atStart => exact ⟨0, m, oc, OA, Nat.zero_le _, rfl, rfl, Lib.hid ⟨out, HO.out, HDD.out⟩, HBL, Lib.hid Kx.refl⟩
  case round =>
    clear HDD HO HBL d1
    obtain ⟨k, m3, c3, A3, hk, rfl, rfl, HI, HWX, HX⟩ := hrel
    obtain ⟨l3, hI3, hT3⟩ := HI.out
    by_cases hlt : k < cn
    · have hkz : (k : Int) < cn := by omega
      have hkz0 : (0 : Int) ≤ k := by omega
      obtain ⟨c, hc⟩ : ∃ c, x.cms[k]? = some c := ⟨_, List.getElem?_eq_getElem (by have := HCS.out.len; have := HCV.out.2.1; omega)⟩
      obtain ⟨d, hd⟩ : ∃ d, y.cms[k]? = some d := ⟨_, List.getElem?_eq_getElem (by have h1 := congrArg List.length HSH.out; rw [List.length_map, List.length_map, List.length_map, List.length_map] at h1; have := (List.getElem?_eq_some_iff.1 hc).1; omega)⟩
      have hcp : (x.cms.map Cm.p)[k]? = some c.p := by rw [List.getElem?_map, hc]; rfl
      have hdp : (y.cms.map Cm.p)[k]? = some d.p := by rw [List.getElem?_map, hd]; rfl
      have hcsw := HCS.out.keep HX.out (by decide) (by decide)
      have hcrd := hcsw.rd.rd
      rw [← HCV.out.1, ← HCV.out.2.1] at hcrd
      obtain ⟨b, o, rfl, hbb, q0, q1⟩ := hcrd.cm hlt hc
      have hcm := List.mem_of_getElem? hc
      obtain ⟨W1, hW1⟩ : ∃ W1, W1 = wr.alloc (.cells #[.int .i64 c.k, .slice c.A c.n c.c] 166) := ⟨_, rfl⟩
      obtain ⟨hh, hhe⟩ : ∃ hh, hh = wr.heap.size := ⟨_, rfl⟩
      have hb1 : Below wr.heap.size wr W1 := by rw [hW1]; exact (Below.refl _ _).alloc (Nat.le_refl _) _
      have hk1 : Kx 0 [] wr W1 := Kx.of_below hb1
      have HH1 : Hid (Bk W1 hh 166 #[.int .i64 c.k, .slice c.A c.n c.c]) := Lib.hid (by rw [hW1, hhe]; exact Bk.new _ _ _)
      have HB1 : Hid (Below w.heap.size w W1) := Lib.hid (HWX.out.trans (hb1.mono HWX.out.size))
      have HX1 : Hid (Kx 0 [158] wi W1) := Lib.hid (HX.out.trans (hk1.mono (Nat.zero_le _) (by simp)))
      have HO1 : Hid (OvI W1 w.heap.size A3 m3 c3 l3) := Lib.hid (hI3.keep hk1 (by simp) (by simp))
      have HC1 : Hid (CmY W1 0 c) := Lib.hid ((hcsw.ok c hcm).keep hk1 (by simp))
      have hTd := hT3
      rw [cmsD_drop hcp hdp] at hTd
      have HTD := Lib.hid hTd
      have HCD := Lib.hid (And.intro hc (And.intro hd (And.intro hcm (List.mem_of_getElem? hd))))
      have HW1 := Lib.hid (And.intro hW1 hhe)
      clear hc hd hcp hdp hcsw hcrd hbb hcm hb1 hk1 hTd hT3 hI3 HI hW1 hhe
      go_upto_region 7 with fail
      go_cut [8, 9] from 24 to 26 (fun s16 s17 wx => s16 = .int .i64 (k : Int) ∧ s17 = .pointer (some ⟨hh, 0, none⟩) ∧ wx = W1)
      case first =>
        go_wp2_with fail
        go_meet
        case rel => exact ⟨rfl, by rw [HW1.out.2], HW1.out.1.symm⟩
      case rest =>
        obtain ⟨rfl, rfl, rfl⟩ := hcut
        clear q0 q1
        first
          | (refine rpVals_any HW.out HY.out HCD.out.2.1 (shC_at HSH.out HCD.out.1 HCD.out.2.1).2.symm (HVL.out d HCD.out.2.2.2) (H8.out c HCD.out.2.2.1) HB1.out (HX1.out.bk HBK.out (by decide)) (HPR.out.1.keep HX1.out (by decide)) HPR.out.2.1 HPR.out.2.2.1 HPR.out.2.2.2.1 HPR.out.2.2.2.2 HH1.out HC1.out HO1.out ?_ ?_)
          | (go_step; refine rpVals_any HW.out HY.out HCD.out.2.1 (shC_at HSH.out HCD.out.1 HCD.out.2.1).2.symm (HVL.out d HCD.out.2.2.2) (H8.out c HCD.out.2.2.1) HB1.out (HX1.out.bk HBK.out (by decide)) (HPR.out.1.keep HX1.out (by decide)) HPR.out.2.1 HPR.out.2.2.1 HPR.out.2.2.2.1 HPR.out.2.2.2.2 HH1.out HC1.out HO1.out ?_ ?_)
          | (go_step; go_step; refine rpVals_any HW.out HY.out HCD.out.2.1 (shC_at HSH.out HCD.out.1 HCD.out.2.1).2.symm (HVL.out d HCD.out.2.2.2) (H8.out c HCD.out.2.2.1) HB1.out (HX1.out.bk HBK.out (by decide)) (HPR.out.1.keep HX1.out (by decide)) HPR.out.2.1 HPR.out.2.2.1 HPR.out.2.2.2.1 HPR.out.2.2.2.2 HH1.out HC1.out HO1.out ?_ ?_)
          | (go_step; go_step; go_step; refine rpVals_any HW.out HY.out HCD.out.2.1 (shC_at HSH.out HCD.out.1 HCD.out.2.1).2.symm (HVL.out d HCD.out.2.2.2) (H8.out c HCD.out.2.2.1) HB1.out (HX1.out.bk HBK.out (by decide)) (HPR.out.1.keep HX1.out (by decide)) HPR.out.2.1 HPR.out.2.2.1 HPR.out.2.2.2.1 HPR.out.2.2.2.2 HH1.out HC1.out HO1.out ?_ ?_)
          | (go_step; go_step; go_step; go_step; refine rpVals_any HW.out HY.out HCD.out.2.1 (shC_at HSH.out HCD.out.1 HCD.out.2.1).2.symm (HVL.out d HCD.out.2.2.2) (H8.out c HCD.out.2.2.1) HB1.out (HX1.out.bk HBK.out (by decide)) (HPR.out.1.keep HX1.out (by decide)) HPR.out.2.1 HPR.out.2.2.1 HPR.out.2.2.2.1 HPR.out.2.2.2.2 HH1.out HC1.out HO1.out ?_ ?_)
        · have h := HTD.out
          rw [h, ← List.append_assoc, List.length_append] at hm
          exact Nat.le_trans (Nat.le_add_right _ _) hm
        · intros
          rename_i OA' m' oc' out' w' HR
          obtain ⟨w5, rfl⟩ : ∃ q, q = w' := ⟨_, rfl⟩
          have HN5 : Hid (∃ l3, OvI w5 w.heap.size OA' m' oc' l3 ∧ DD = l3.map Ov.p ++ cmsD x.path ((x.cms.map Cm.p).drop (k + 1)) ((y.cms.map Cm.p).drop (k + 1))) := Lib.hid ⟨out', HR.out.2.2.1, by rw [HR.out.2.2.2, HTD.out, List.append_assoc]; rfl⟩
          have HB5 : Hid (Below w.heap.size w w5) := Lib.hid HR.out.1
          have HX5 : Hid (Kx 0 [158] wi w5) := Lib.hid (HX1.out.trans HR.out.2.1)
          clear HR HTD
          go_wp2_with fail
          go_roundw
          case measure => simp [intOf]; omega
          case rel => exact ⟨k + 1, m', oc', OA', by omega, by go_num, rfl, HN5, HB5, HX5⟩
    · obtain rfl : k = cn := by omega
      have HP : Hid (Below w.heap.size w wr ∧ Kx 0 [158] wi wr ∧ OvI wr w.heap.size A3 m3 c3 l3 ∧ l3.map Ov.p = DD) := Lib.hid ⟨HWX.out, HX.out, hI3, by rw [hT3, cmsD_end (by rw [List.length_map, ← HCS.out.len, ← HCV.out.2.1]; exact Nat.le_refl _), List.append_nil]⟩
      clear hI3 hT3
      go_wp2_with fail
      exact hN _ _ _ _ _ _ _ _ _ _ _ _ _ _ _ _ _ _ _ _ _ _ _ _ _ _ _ _ _ _ _ _ _ _ _ _ _ _ _ _ _ _ _ _ _ _ _ _ _ _ A3 m3 c3 l3 _ HP

set_option maxHeartbeats 8000000 in
theorem replaced_any {w : World} {B base wn wc hn hcp : Nat} {HA WA : Option Addr} {ks : List Kd} {lh lw : List Bt} (hw : BsOk w B WA wn wc lw) (hI : CnI w base ks HA hn hcp lh) (hsh : (lh.map Bt.p).map shp = (lw.map Bt.p).map shp) (hval : ∀ y ∈ lw, ∀ d ∈ y.cms, ∀ v ∈ d.vals, (Lit.int .i64 v).wf = true) (hpl : ∀ x ∈ lh, x.path.length ≤ 1000) (hD : (diffD (lh.map Bt.p) (lw.map Bt.p)).length ≤ 40) :
    Calls Try.prog 74 #[.slice HA hn hcp, .slice WA wn wc] w fun e w' => Below w.heap.size w w' ∧ ∃ (A : Option Addr) (m c : Nat) (l : List Ov), e = .returned (.slice A m c) ∧ Hid (OvI w' w.heap.size A m c l ∧ l.map Ov.p = diffD (lh.map Bt.p) (lw.map Bt.p)) := by
  obtain ⟨DD, hT⟩ : ∃ DD, DD = diffD (lh.map Bt.p) (lw.map Bt.p) := ⟨_, rfl⟩
  rw [← hT] at hD ⊢
  have hcap := (own_cap2 hI.own).1
  have hcap2 := (own_cap2 hI.own).2
  have HW := Lib.hid hw
  have HI0 := Lib.hid hI
  have HSH := Lib.hid hsh
  have HVL := Lib.hid hval
  have HPL := Lib.hid hpl
  have HT : Hid (DD = diffD ((lh.map Bt.p).drop 0) ((lw.map Bt.p).drop 0)) := Lib.hid hT
  clear hw hI hsh hval hpl hT
  go_enter Try.func74, Try.ntmps74
  go_wp2_with fail
  go_loopw [5, 14] (fun av iv wx => ∃ (i m3 c3 : Nat) (A3 : Option Addr), i ≤ hn ∧ iv = .int .i64 i ∧ av = .slice A3 m3 c3 ∧ Hid (∃ l3, OvI wx w.heap.size A3 m3 c3 l3 ∧ DD = l3.map Ov.p ++ diffD ((lh.map Bt.p).drop i) ((lw.map Bt.p).drop i)) ∧ Hid (Below w.heap.size w wx) ∧ Hid (Kx 0 [158] w wx)) (fun _ iv _ => hn - (intOf iv).toNat)
  case atStart => exact ⟨0, 0, 0, none, Nat.zero_le _, rfl, rfl, Lib.hid ⟨[], ⟨World.ownsRow_nil _ _ _ _, rfl, (fun x hx => by cases hx)⟩, HT.out⟩, Lib.hid (Below.refl _ _), Lib.hid Kx.refl⟩
  case round =>
    clear HT
    obtain ⟨i, m3, c3, A3, hi, rfl, rfl, HI, HWX, HX⟩ := hrel
    obtain ⟨l3, hI3, hT3⟩ := HI.out
    by_cases hlt : i < hn
    · have hiz : (i : Int) < hn := by omega
      have hiz0 : (0 : Int) ≤ i := by omega
      obtain ⟨x, hx⟩ : ∃ x, lh[i]? = some x := ⟨_, List.getElem?_eq_getElem (by have := HI0.out.len; omega)⟩
      have hxm := List.mem_of_getElem? hx
      have hxl := (List.getElem?_eq_some_iff.1 hx).1
      obtain ⟨y, hy⟩ : ∃ y, lw[i]? = some y := ⟨_, List.getElem?_eq_getElem (by have h1 := congrArg List.length HSH.out; simp only [List.length_map] at h1; omega)⟩
      have hHx : (lh.map Bt.p)[i]? = some x.p := by rw [List.getElem?_map, hx]; rfl
      have hWy : (lw.map Bt.p)[i]? = some y.p := by rw [List.getElem?_map, hy]; rfl
      have hshp : shp x.p = shp y.p := by
        have h1 := congrArg (fun q => q[i]?) HSH.out
        simp only [List.getElem?_map] at h1
        rw [hx, hy] at h1
        simpa using h1
      have hIw := HI0.out.keep HX.out (by decide) (by decide) (by decide)
      obtain ⟨b, o, rfl, hbb, q0, q1⟩ := Rd.btS hIw.own hlt hx
      have hxY := hIw.ok x hxm
      obtain ⟨W1, hW1⟩ : ∃ W1, W1 = wr.alloc (.cells #[.slice x.pA x.pn x.pc, .slice x.cA x.cn x.cc] 40) := ⟨_, rfl⟩
      obtain ⟨hb, hhe⟩ : ∃ hb, hb = wr.heap.size := ⟨_, rfl⟩
      have hb1 : Below wr.heap.size wr W1 := by rw [hW1]; exact (Below.refl _ _).alloc (Nat.le_refl _) _
      have hk1 : Kx 0 [] wr W1 := Kx.of_below hb1
      have HH1 : Hid (Bk W1 hb 40 #[.slice x.pA x.pn x.pc, .slice x.cA x.cn x.cc]) := Lib.hid (by rw [hW1, hhe]; exact Bk.new _ _ _)
      have HB1 : Hid (Below w.heap.size w W1) := Lib.hid (HWX.out.trans (hb1.mono HWX.out.size))
      have HX1 : Hid (Kx 0 [158] w W1) := Lib.hid (HX.out.trans (hk1.mono (Nat.zero_le _) (by simp)))
      have HO1 : Hid (OvI W1 w.heap.size A3 m3 c3 l3) := Lib.hid (hI3.keep hk1 (by simp) (by simp))
      have hxY1 := hxY.keep hk1 (by simp) (by simp)
      have HXY : Hid (CtY W1 base x) := Lib.hid hxY1
      have HKO : Hid (∀ c ∈ x.cms, c.n ≤ 1048576) := Lib.hid fun c hc => (HI0.out.kok x hxm c hc).2
      have HCS : Hid (CsY W1 0 x.cA x.cn x.cc x.cms) := Lib.hid ⟨hxY1.crd, hxY1.clen, hxY1.ccap, hxY1.ccap2, fun c hc => by
        have h1 := hxY1.vals c hc
        have h2 := own_cap2 h1.own
        exact ⟨RdY.of_own h1.own, h1.len, h2.1, h2.2, h1.wf⟩⟩
      have hTd := hT3
      rw [diffD_drop hHx hWy] at hTd
      have HTD := Lib.hid hTd
      have HXX := Lib.hid (And.intro hxm (And.intro hy (And.intro (List.mem_of_getElem? hy) hshp)))
      have hpx := HPL.out x hxm
      have HPX : Hid (x.pn ≤ 1000) := Lib.hid (by have := hxY.plen; omega)
      have HW1 := Lib.hid (And.intro hW1 hhe)
      clear hx hxm hxl hy hHx hWy hshp hIw hbb hxY hb1 hk1 hxY1 hTd hT3 hI3 HI hW1 hhe hpx
      go_upto_region 4 with fail
      go_cut [6, 7] from 16 to 18 (fun s6 s7 wx => s6 = .int .i64 (i : Int) ∧ s7 = .pointer (some ⟨hb, 0, none⟩) ∧ wx = W1)
      case first =>
        go_wp2_with fail
        go_meet
        case rel => exact ⟨rfl, by rw [HW1.out.2], HW1.out.1.symm⟩
      case rest =>
        obtain ⟨rfl, rfl, rfl⟩ := hcut
        clear q0 q1
        first
          | (refine rpComps_any HW.out HXX.out.2.1 (shp_eq HXX.out.2.2.2).2 (fun d hd => HVL.out y HXX.out.2.2.1 d hd) HKO.out HB1.out HH1.out (RdY.of_own HXY.out.pth) HXY.out.plen HPX.out (own_cap2 HXY.out.pth).1 (own_cap2 HXY.out.pth).2 HCS.out HO1.out ?_ ?_)
          | (go_step; refine rpComps_any HW.out HXX.out.2.1 (shp_eq HXX.out.2.2.2).2 (fun d hd => HVL.out y HXX.out.2.2.1 d hd) HKO.out HB1.out HH1.out (RdY.of_own HXY.out.pth) HXY.out.plen HPX.out (own_cap2 HXY.out.pth).1 (own_cap2 HXY.out.pth).2 HCS.out HO1.out ?_ ?_)
          | (go_step; go_step; refine rpComps_any HW.out HXX.out.2.1 (shp_eq HXX.out.2.2.2).2 (fun d hd => HVL.out y HXX.out.2.2.1 d hd) HKO.out HB1.out HH1.out (RdY.of_own HXY.out.pth) HXY.out.plen HPX.out (own_cap2 HXY.out.pth).1 (own_cap2 HXY.out.pth).2 HCS.out HO1.out ?_ ?_)
          | (go_step; go_step; go_step; refine rpComps_any HW.out HXX.out.2.1 (shp_eq HXX.out.2.2.2).2 (fun d hd => HVL.out y HXX.out.2.2.1 d hd) HKO.out HB1.out HH1.out (RdY.of_own HXY.out.pth) HXY.out.plen HPX.out (own_cap2 HXY.out.pth).1 (own_cap2 HXY.out.pth).2 HCS.out HO1.out ?_ ?_)
          | (go_step; go_step; go_step; go_step; refine rpComps_any HW.out HXX.out.2.1 (shp_eq HXX.out.2.2.2).2 (fun d hd => HVL.out y HXX.out.2.2.1 d hd) HKO.out HB1.out HH1.out (RdY.of_own HXY.out.pth) HXY.out.plen HPX.out (own_cap2 HXY.out.pth).1 (own_cap2 HXY.out.pth).2 HCS.out HO1.out ?_ ?_)
        · have h := HTD.out
          rw [h, ← List.append_assoc, List.length_append] at hD
          exact Nat.le_trans (Nat.le_add_right _ _) hD
        · intros
          rename_i OA' m' oc' out' w' HR
          obtain ⟨w5, rfl⟩ : ∃ q, q = w' := ⟨_, rfl⟩
          have HN5 : Hid (∃ l3, OvI w5 w.heap.size OA' m' oc' l3 ∧ DD = l3.map Ov.p ++ diffD ((lh.map Bt.p).drop (i + 1)) ((lw.map Bt.p).drop (i + 1))) := Lib.hid ⟨out', HR.out.2.2.1, by rw [HR.out.2.2.2, HTD.out, List.append_assoc]; rfl⟩
          have HB5 : Hid (Below w.heap.size w w5) := Lib.hid HR.out.1
          have HX5 : Hid (Kx 0 [158] w w5) := Lib.hid (HX1.out.trans HR.out.2.1)
          clear HR HTD
          go_wp2_with fail
          go_roundw
          case measure => simp [intOf]; omega
          case rel => exact ⟨i + 1, m', oc', OA', by omega, by go_num, rfl, HN5, HB5, HX5⟩
    · obtain rfl : i = hn := by omega
      have HP : Hid (OvI wr w.heap.size A3 m3 c3 l3 ∧ l3.map Ov.p = DD) := Lib.hid ⟨hI3, by rw [hT3, diffD_end (by rw [List.length_map, ← HI0.out.len]; exact Nat.le_refl _), List.append_nil]⟩
      clear hI3 hT3
      go_wp2_with fail
      go_ret
      exact ⟨HWX.out, A3, m3, c3, l3, rfl, HP⟩

/-! ### Sp -/
def k2ts : List Tpl := [([(0, [1, 2])], []), ([], [(0, [([], 0, 1, 5)])])]
theorem k2_comp0 : pcompF [(k0n, k0f)] none [] = 0 := by decide +kernel
theorem k2_over : (buildF [(k0n, k0f)] k2ts 20 0 [([], 0, 1, 5)]).1 = 0 := by decide +kernel
theorem k2_build : buildF [(k0n, k0f)] k2ts 20 ((1 : Nat) : Int) [] = (0, [([], []), ([0], [(0, [1, 5])])]) := by decide +kernel
theorem two_of_map {α β : Type} {f : α → β} {l : List α} {b c : β} (h : l.map f = [b, c]) : ∃ x y, l = [x, y] ∧ f x = b ∧ f y = c := by
  match l, h with
  | [x, y], h => exact ⟨x, y, rfl, by simpa using (List.cons.inj h).1, by simpa using (List.cons.inj (List.cons.inj h).2).1⟩
  | [], h => simp at h
  | [_], h => simp at h
  | _ :: _ :: _ :: _, h => simp at h

set_option maxHeartbeats 4000000 in
theorem builds73_any (w : World) : Calls Try.prog 73 #[] w fun e w' => e = .returned (.bool true) ∧ Below w.heap.size w w' := by
  have HK := Lib.hid kinds0_any
  go_enter Try.func73, Try.ntmps73
  go_wp2_with fail
  refine (HK.out _).mono ?_
  rintro e w1 ⟨g, ks, rfl, hk, hb1⟩
  obtain ⟨s, hs⟩ : ∃ s, s = w1.heap.size := ⟨_, rfl⟩
  obtain ⟨W, hW⟩ : ∃ W, W = ((((((w1.alloc (.cells #[.int .i64 1, .int .i64 2] 3)).alloc (.cells #[.int .i64 0, .slice (some ⟨w1.heap.size, 0, none⟩) 2 2] 166)).alloc (.cells #[.slice (some ⟨w1.heap.size + 1, 0, none⟩) 1 1, .slice none 0 0] 43)).alloc (.cells #[.slice none 0 0, .int .i64 0, .int .i64 1, .int .i64 5] 158)).alloc (.cells #[.int .i64 0, .slice (some ⟨w1.heap.size + 3, 0, none⟩) 1 1] 46)).alloc (.cells #[.slice none 0 0, .slice (some ⟨w1.heap.size + 4, 0, none⟩) 1 1] 43)).alloc (.cells #[.slice (some ⟨w1.heap.size + 1, 0, none⟩) 1 1, .slice none 0 0, .slice none 0 0, .slice (some ⟨w1.heap.size + 4, 0, none⟩) 1 1] 43) := ⟨_, rfl⟩
  have hbW : Below w1.heap.size w1 W := by
    rw [hW]
    repeat' (first | exact Below.refl _ _ | refine Below.alloc ?_ (by simp <;> omega) _)
  have b0 : Bk W s 3 #[.int .i64 1, .int .i64 2] := by rw [hW, hs]; exact ((((((Bk.new _ _ _).alloc _).alloc _).alloc _).alloc _).alloc _).alloc _
  have b1 : Bk W (s + 1) 166 #[.int .i64 0, .slice (some ⟨s, 0, none⟩) 2 2] := by rw [hW, hs]; exact (((((Bk.two _ _ _ _).alloc _).alloc _).alloc _).alloc _).alloc _
  have b3 : Bk W (s + 3) 158 #[.slice none 0 0, .int .i64 0, .int .i64 1, .int .i64 5] := by
    rw [hW, hs]
    have h := (((Bk.new (((w1.alloc (.cells #[.int .i64 1, .int .i64 2] 3)).alloc (.cells #[.int .i64 0, .slice (some ⟨w1.heap.size, 0, none⟩) 2 2] 166)).alloc (.cells #[.slice (some ⟨w1.heap.size + 1, 0, none⟩) 1 1, .slice none 0 0] 43)) 158 #[.slice none 0 0, .int .i64 0, .int .i64 1, .int .i64 5]).alloc (.cells #[.int .i64 0, .slice (some ⟨w1.heap.size + 3, 0, none⟩) 1 1] 46)).alloc (.cells #[.slice none 0 0, .slice (some ⟨w1.heap.size + 4, 0, none⟩) 1 1] 43)).alloc (.cells #[.slice (some ⟨w1.heap.size + 1, 0, none⟩) 1 1, .slice none 0 0, .slice none 0 0, .slice (some ⟨w1.heap.size + 4, 0, none⟩) 1 1] 43)
    simpa using h
  have b4 : Bk W (s + 4) 46 #[.int .i64 0, .slice (some ⟨s + 3, 0, none⟩) 1 1] := by
    rw [hW, hs]
    have h := ((Bk.new ((((w1.alloc (.cells #[.int .i64 1, .int .i64 2] 3)).alloc (.cells #[.int .i64 0, .slice (some ⟨w1.heap.size, 0, none⟩) 2 2] 166)).alloc (.cells #[.slice (some ⟨w1.heap.size + 1, 0, none⟩) 1 1, .slice none 0 0] 43)).alloc (.cells #[.slice none 0 0, .int .i64 0, .int .i64 1, .int .i64 5] 158)) 46 #[.int .i64 0, .slice (some ⟨w1.heap.size + 3, 0, none⟩) 1 1]).alloc (.cells #[.slice none 0 0, .slice (some ⟨w1.heap.size + 4, 0, none⟩) 1 1] 43)).alloc (.cells #[.slice (some ⟨w1.heap.size + 1, 0, none⟩) 1 1, .slice none 0 0, .slice none 0 0, .slice (some ⟨w1.heap.size + 4, 0, none⟩) 1 1] 43)
    simpa using h
  have b6 : Bk W (s + 6) 43 #[.slice (some ⟨s + 1, 0, none⟩) 1 1, .slice none 0 0, .slice none 0 0, .slice (some ⟨s + 4, 0, none⟩) 1 1] := by
    rw [hW, hs]
    have h := Bk.new ((((((w1.alloc (.cells #[.int .i64 1, .int .i64 2] 3)).alloc (.cells #[.int .i64 0, .slice (some ⟨w1.heap.size, 0, none⟩) 2 2] 166)).alloc (.cells #[.slice (some ⟨w1.heap.size + 1, 0, none⟩) 1 1, .slice none 0 0] 43)).alloc (.cells #[.slice none 0 0, .int .i64 0, .int .i64 1, .int .i64 5] 158)).alloc (.cells #[.int .i64 0, .slice (some ⟨w1.heap.size + 3, 0, none⟩) 1 1] 46)).alloc (.cells #[.slice none 0 0, .slice (some ⟨w1.heap.size + 4, 0, none⟩) 1 1] 43)) 43 #[.slice (some ⟨w1.heap.size + 1, 0, none⟩) 1 1, .slice none 0 0, .slice none 0 0, .slice (some ⟨w1.heap.size + 4, 0, none⟩) 1 1]
    simpa using h
  obtain ⟨cm0, hcm0⟩ : ∃ cm : Cm, cm = ⟨0, some ⟨s, 0, none⟩, 2, 2, [1, 2]⟩ := ⟨_, rfl⟩
  obtain ⟨ov0, hov0⟩ : ∃ o : Ov, o = ⟨none, 0, 0, [], 0, 1, 5⟩ := ⟨_, rfl⟩
  obtain ⟨pt0, hpt0⟩ : ∃ p : Pt, p = ⟨0, some ⟨s + 3, 0, none⟩, 1, 1, [ov0]⟩ := ⟨_, rfl⟩
  obtain ⟨ts, hts⟩ : ∃ ts : List Pf, ts = [⟨some ⟨s + 1, 0, none⟩, 1, 1, [cm0], none, 0, 0, []⟩, ⟨none, 0, 0, [], some ⟨s + 4, 0, none⟩, 1, 1, [pt0]⟩] := ⟨_, rfl⟩
  have hcs : CsY W 0 (some ⟨s + 1, 0, none⟩) 1 1 [cm0] :=
    ⟨.of_bk b1 rfl (fun j u hu => by rw [hcm0] at hu; simpa [cmCs, Cm.cs] using hu), rfl, Nat.le_refl _, by omega, fun x hx => by
      rw [List.mem_singleton.1 hx, hcm0]
      exact ⟨.of_bk b0 rfl (fun j u hu => by simpa using hu), rfl, Nat.le_refl _, by show (2 : Nat) ≤ _; omega, by show (Lit.int .i64 0).wf = true; decide⟩⟩
  have hos : OvsY W 0 (some ⟨s + 3, 0, none⟩) 1 1 [ov0] :=
    ⟨.of_bk b3 rfl (fun j u hu => by rw [hov0] at hu; simpa [ovCs, Ov.cs] using hu), rfl, Nat.le_refl _, by omega, fun x hx => by
      rw [List.mem_singleton.1 hx, hov0]
      exact ⟨RdY.nil_ _, rfl, Nat.le_refl _, by show (0 : Nat) ≤ _; omega, by show (Lit.int .i64 0).wf = true; decide, by show (Lit.int .i64 1).wf = true; decide, by show (Lit.int .i64 5).wf = true; decide⟩⟩
  have hps : PtsY W 0 (some ⟨s + 4, 0, none⟩) 1 1 [pt0] :=
    ⟨.of_bk b4 rfl (fun j u hu => by rw [hpt0] at hu; simpa [ptCs, Pt.cs] using hu), rfl, Nat.le_refl _, by omega, fun x hx => by
      rw [List.mem_singleton.1 hx, hpt0]
      exact ⟨hos, by show (Lit.int .i64 0).wf = true; decide⟩⟩
  have hty : PfsY W 0 (some ⟨s + 6, 0, none⟩) 2 2 ts :=
    ⟨.of_bk b6 (by rw [hts]; rfl) (fun j u hu => by rw [hts] at hu; simpa [pfCs, Pf.cs] using hu), by rw [hts]; rfl, Nat.le_refl _, by omega, fun x hx => by
      rw [hts] at hx
      rcases List.mem_cons.1 hx with rfl | hx
      · exact ⟨hcs, ⟨RdY.nil_ _, rfl, Nat.le_refl _, by show (0 : Nat) ≤ _; omega, (fun x hx => by cases hx)⟩⟩
      · rw [List.mem_singleton.1 hx]
        exact ⟨⟨RdY.nil_ _, rfl, Nat.le_refl _, by show (0 : Nat) ≤ _; omega, (fun x hx => by cases hx)⟩, hps⟩⟩
  have htp : ts.map Pf.p = k2ts := by rw [hts, hpt0, hov0, hcm0]; rfl
  have hkw : KsY W 0 (some ⟨g, 0, none⟩) 1 1 ks := hk.out.1.keep (F := []) (Kx.of_below (B := 0) hbW) (by simp) (by simp)
  have hkl : ks.length = 1 := by have := congrArg List.length hk.out.2; simpa using this
  have hv : TplV ks ts := by
    refine ⟨⟨fun n t hn => ?_, fun n t hn x hx => ?_⟩, by rw [hk.out.2]; exact k0_ck, by rw [hts]; exact Nat.le_of_ble_eq_true rfl, fun t ht => ?_, fun t ht => ?_, fun t ht x hx => ?_⟩
    · have e := List.mem_of_getElem? hn
      rw [hts] at e
      rcases List.mem_cons.1 e with rfl | e
      · refine ⟨by show (1 : Nat) ≤ 1000; omega, fun cm hcm => ?_⟩
        rw [List.mem_singleton.1 hcm, hcm0]
        exact ⟨⟨0, rfl, by omega⟩, by show (2 : Nat) ≤ _; omega⟩
      · rw [List.mem_singleton.1 e]
        exact ⟨by show (0 : Nat) ≤ 1000; omega, fun cm hcm => by cases hcm⟩
    · rw [hts] at hn
      match n, hn with
      | 0, hn =>
        have e := (List.getElem?_eq_some_iff.1 hn).2
        rw [← e] at hx
        have hx : x ∈ ([] : List Pt) := hx
        cases hx
      | 1, hn =>
        have e := (List.getElem?_eq_some_iff.1 hn).2
        rw [← e] at hx
        have hx : x ∈ [pt0] := hx
        rw [List.mem_singleton.1 hx, hpt0]
        exact ⟨0, rfl, by omega⟩
      | n + 2, hn => simp at hn
    · rw [hts] at ht
      rcases List.mem_cons.1 ht with rfl | ht
      · rw [hk.out.2, hcm0]; exact k0_comp
      · rw [List.mem_singleton.1 ht, hk.out.2]; exact k2_comp0
    · rw [hts] at ht
      rcases List.mem_cons.1 ht with rfl | ht
      · exact Nat.zero_le _
      · rw [List.mem_singleton.1 ht]; show (1 : Nat) ≤ 8; omega
    · rw [htp, hk.out.2]
      rw [hts] at ht
      rcases List.mem_cons.1 ht with rfl | ht
      · cases hx
      · rw [List.mem_singleton.1 ht] at hx
        rw [List.mem_singleton.1 hx, hpt0, hov0]
        exact k2_over
  have hbl := pfbuild_any hkw.ok_ hty.ok_ hv (nn := 1) (oA := none) (on := 0) (oc := 0) (ovs := []) (by omega) ⟨Rd.nil_ _, rfl, Nat.le_refl _, by omega, (fun x hx => by cases hx), Nat.le_refl _⟩
  have hbe : buildF (ks.map Kd.p) (ts.map Pf.p) 20 ((1 : Nat) : Int) (([] : List Ov).map Ov.p) = (0, [([], []), ([0], [(0, [1, 5])])]) := by
    rw [hk.out.2, htp]; exact k2_build
  rw [hbe] at hbl
  have HBL : Hid (Calls Try.prog 25 #[.slice (some ⟨g, 0, none⟩) 1 1, .slice (some ⟨s + 6, 0, none⟩) 2 2, .int .i64 1, .slice none 0 0] W fun e w' => ∃ (b o c pc c2 vc b3 o3 : Nat) (pA vA : Option Addr), e = .returned (.tuple #[.slice (some ⟨b, o, none⟩) 2 c, .int .i64 0]) ∧ (w'.cell? ⟨b, o + 2, none⟩ = some (.slice pA 1 pc) ∧ w'.cell? ⟨b, o + 2 + 1, none⟩ = some (.slice (some ⟨b3, o3, none⟩) 1 c2) ∧ w'.cell? ⟨b3, o3 + 1, none⟩ = some (.slice vA 2 vc) ∧ Rd w' w'.heap.size 1 pA 1 [.int .i64 0] ∧ Rd w' w'.heap.size 1 vA 2 [.int .i64 1, .int .i64 5]) ∧ Below W.heap.size W w') := Lib.hid (hbl.mono fun e w' h => by
    obtain ⟨h1, h2⟩ := h
    rcases h2 with ⟨h3, _⟩ | ⟨_, A, m, c, l, rfl, h4⟩
    · exact absurd rfl h3
    · obtain ⟨x, y, rfl, _, hy⟩ := two_of_map h4.out.2
      obtain rfl : m = 2 := h4.out.1.len
      have hyp : y.path = [0] := congrArg Prod.fst hy
      have hyc : y.cms.map Cm.p = [(0, [1, 5])] := congrArg Prod.snd hy
      obtain ⟨cm, hcm, hcp⟩ := one_of_map hyc
      have hyY := h4.out.1.ys.ok y (by simp)
      have hcn : y.cn = 1 := by have := hyY.cs.len; rw [hcm] at this; exact this
      have hpn : y.pn = 1 := by have := hyY.len; rw [hyp] at this; exact this
      obtain ⟨b, o, rfl, _, q0, q1⟩ := Rd.btS h4.out.1.own (k := 1) (f := y) (by omega) rfl
      have hcY := hyY.cs.ok cm (by rw [hcm]; simp)
      have hv5 : cm.vals = [1, 5] := congrArg Prod.snd hcp
      have hn2 : cm.n = 2 := by have := hcY.len; rw [hv5] at this; exact this
      have hcsr := hyY.cs.rd.rd
      obtain ⟨b3, o3, hA3, _, _, r1⟩ := hcsr.cm (k := 0) (f := cm) (by omega) (by rw [hcm]; rfl)
      have hpr := hyY.rd.rd
      have hvr := hcY.rd.rd
      rw [hyp, hpn] at hpr
      rw [hv5, hn2] at hvr
      rw [Nat.one_mul, hpn] at q0
      rw [Nat.one_mul, hcn, hA3] at q1
      rw [Nat.zero_mul, Nat.add_zero, hn2] at r1
      exact ⟨b, o, c, y.pc, y.cc, cm.c, b3, o3, y.pA, cm.A, rfl, ⟨q0, q1, r1, hpr, hvr⟩, h1⟩)
  have HB : Hid (Below w.heap.size w W) := Lib.hid (hb1.trans (hbW.mono hb1.size))
  clear hk hb1 hbW b0 b1 b3 b4 b6 hcs hos hps hty htp hkw hkl hv hbl hbe HK hcm0 hov0 hpt0 hts
  go_wp2_with fail
  rw [← hW, ← hs]
  clear hW
  (with_reducible refine HBL.out.mono ?_)
  rintro e w3 ⟨b, o, c, pc, c2, vc, b3, o3, pA, vA, rfl, ⟨q0, q1, q2, hp, hv⟩, hb3⟩
  have HB3 := Lib.hid (HB.out.trans (hb3.mono HB.out.size))
  have HBK := Lib.hid (And.intro q0 (And.intro q1 q2))
  have HE1 : Hid (Calls Try.prog 27 #[.slice pA 1 pc, .slice (some ⟨w3.heap.size, 0, none⟩) 1 1] (w3.alloc (.cells #[.int .i64 0] 3)) fun e w' => e = .returned (.bool true) ∧ ∃ m, (w3.alloc (.cells #[.int .i64 0] 3)).drewN m = w') := Lib.hid (by
    have hba : Below w3.heap.size w3 (w3.alloc (.cells #[.int .i64 0] 3)) := (Below.refl _ _).alloc (Nat.le_refl _) _
    exact equalInts_any pA (some ⟨w3.heap.size, 0, none⟩) 1 pc 1 1 (w3.alloc (.cells #[.int .i64 0] 3)).heap.size [0] [0] _ rfl rfl (by omega) ((hp.below hba).more hba.size) ((RdY.of_bk (B := 0) (Bk.new w3 3 #[.int .i64 0]) rfl (fun j u hu => by simpa using hu)).rd))
  have HV := Lib.hid hv
  clear hb3 HBL HB hp hv
  go_wp2_with fail
  (with_reducible refine HE1.out.mono ?_)
  clear HE1
  rintro e w4 ⟨rfl, m4, rfl⟩
  have hb4 : Below w3.heap.size w3 ((w3.alloc (.cells #[.int .i64 0] 3)).drewN m4) := below_dn ((Below.refl _ _).alloc (Nat.le_refl _) _) m4
  obtain ⟨W4, hW4⟩ : ∃ W4, W4 = (w3.alloc (.cells #[.int .i64 0] 3)).drewN m4 := ⟨_, rfl⟩
  rw [← hW4] at hb4 ⊢
  clear hW4 q0 q1 q2
  have HB4 : Hid (Below w.heap.size w W4) := Lib.hid (HB3.out.trans (hb4.mono HB3.out.size))
  have q0 : W4.cell? ⟨b, o + 2, none⟩ = some (.slice pA 1 pc) := (World.cell?_of_block (w := w3) (hb4.block b (World.block_lt_of_cell? w3 _ HBK.out.1))).trans HBK.out.1
  have q1 : W4.cell? ⟨b, o + 2 + 1, none⟩ = some (.slice (some ⟨b3, o3, none⟩) 1 c2) := (World.cell?_of_block (w := w3) (hb4.block b (World.block_lt_of_cell? w3 _ HBK.out.2.1))).trans HBK.out.2.1
  have q2 : W4.cell? ⟨b3, o3 + 1, none⟩ = some (.slice vA 2 vc) := (World.cell?_of_block (w := w3) (hb4.block b3 (World.block_lt_of_cell? w3 _ HBK.out.2.2))).trans HBK.out.2.2
  have hv4 := (HV.out.below hb4).more hb4.size
  have HE2 : Hid (Calls Try.prog 27 #[.slice vA 2 vc, .slice (some ⟨W4.heap.size, 0, none⟩) 2 2] (W4.alloc (.cells #[.int .i64 1, .int .i64 5] 3)) fun e w' => e = .returned (.bool true) ∧ ∃ m, (W4.alloc (.cells #[.int .i64 1, .int .i64 5] 3)).drewN m = w') := Lib.hid (by
    have hba : Below W4.heap.size W4 (W4.alloc (.cells #[.int .i64 1, .int .i64 5] 3)) := (Below.refl _ _).alloc (Nat.le_refl _) _
    exact equalInts_any vA (some ⟨W4.heap.size, 0, none⟩) 2 vc 2 2 (W4.alloc (.cells #[.int .i64 1, .int .i64 5] 3)).heap.size [1, 5] [1, 5] _ rfl rfl (by omega) ((hv4.below hba).more hba.size) ((RdY.of_bk (B := 0) (Bk.new W4 3 #[.int .i64 1, .int .i64 5]) rfl (fun j u hu => by simpa using hu)).rd))
  clear hb4 hv4 HV HBK HB3
  go_wp2_with fail
  (with_reducible refine HE2.out.mono ?_)
  clear HE2
  rintro e w5 ⟨rfl, m5, rfl⟩
  have HB5 := Lib.hid (below_dn (HB4.out.alloc HB4.out.size (.cells #[.int .i64 1, .int .i64 5] 3)) m5)
  clear q0 q1 q2
  go_wp2_with fail
  go_ret
  exact ⟨rfl, HB5.out⟩

/-! ### So -/
theorem Kx.ovs {w w' : World} {B n c : Nat} {A : Option Addr} {l : List Ov} (h : OvsY w B A n c l) (hk : Kx B [40] w w') : OvsY w' B A n c l := h.keep hk (by decide) (by decide)
theorem SrtF.lex {l : List Ov} (h : SrtF l cmpO) : SrtF l fun x y => lexC x.path y.path := fun i j x y hij hx hy => by
  have h1 := h i j x y hij hx hy
  unfold cmpO or3 at h1
  show 0 ≤ lexC y.path x.path
  by_cases h0 : lexC y.path x.path = 0
  · omega
  · rw [if_pos h0] at h1; exact h1
theorem ovCs_one (l : List Ov) : ∀ u ∈ ovCs l, u.oneCell' = true := fun u hu => by
  obtain ⟨x, _, hx⟩ := List.mem_flatMap.1 hu
  simp [Ov.cs] at hx
  rcases hx with rfl | rfl | rfl | rfl <;> simp [Value.oneCell']
/-- prefab.Diff at what was constructed. -/
theorem diffC_any {w : World} {B kn kc tn tc nn wn wc base : Nat} {kA TA WA : Option Addr} {ks : List Kd} {ts : List Pf} {lw : List Bt} {H X : List Blt} {os : Osv} (hk : KsOk w B kA kn kc ks) (ht : PfsOk w B TA tn tc ts) (hv : TplV ks ts) (hn : nn < tn) (hb : CnI w base ks WA wn wc lw) (hX : lw.map Bt.p = X) (hbo : BldOk (ks.map Kd.p) (ts.map Pf.p) nn os H 0 X) :
    Calls Try.prog 62 #[.slice kA kn kc, .slice TA tn tc, .int .i64 nn, .slice WA wn wc] w fun e w' => Below w.heap.size w w' ∧ ∃ (A : Option Addr) (m c : Nat) (l : List Ov), e = .returned (.tuple #[.slice A m c, .int .i64 0]) ∧ Hid (OvI w' w.heap.size A m c l ∧ l.map Ov.p = diffD H X) := by
  have h := diff_any (hk.moreP (B' := w.heap.size) hk.lo (Nat.le_refl _)) (B := w.heap.size) (ts := ts) (TA := TA) (tn := tn) (tc := tc) (nn := nn) (H := H)
    (by have h9 := PfsY.of_ok (B := w.heap.size) ht ht.lo; exact ⟨ht.rd.more ht.lo, ht.len, ht.cap, ht.cap2, (PfsY.ok_ h9).ok, Nat.le_refl _⟩) hv hn hb.okB hbo.h0 (by rw [hX]; exact hbo.shp rfl)
    (fun y hy => hbo.pc rfl y.p (by rw [← hX]; exact List.mem_map_of_mem hy))
    (fun y hy d hd v hvv => hbo.wf rfl y.p (by rw [← hX]; exact List.mem_map_of_mem hy) d.p (List.mem_map_of_mem hd) v hvv)
    (by rw [hX]; exact Nat.le_trans (hbo.le rfl) (hbo.few rfl))
  rw [hX] at h
  exact h

set_option maxHeartbeats 8000000 in
theorem prefabDiffs_any (A : Option Addr) (n c B : Nat) (l : List Int) (x turn : Int) (oA : Option Addr) (on oc : Nat) (ovs : List Ov) (w : World) (hr : Rd w B 1 A n (l.map (Value.int .i64))) (hn : n = l.length) (hnc : n ≤ c) (hc : c ≤ 9223372036854775807) (hz : ∀ z ∈ l, (Lit.int .i64 z).wf = true) (hB : B ≤ w.heap.size) (ho : OvsOk w B oA on oc ovs) :
    Calls Try.prog 14 #[.slice A n c, .int .i64 x, .slice oA on oc, .int .i64 turn] w fun e w' => e = .returned (.bool true) ∧ Below w.heap.size w w' := by
  obtain ⟨i40, hi40, hy0, hy1, hy2⟩ := info_parts T.info40
  have HKD := Lib.hid (kindsC_any A n c B l w hr hn hnc hc hz hB)
  have HPF := Lib.hid (fun (kA : Option Addr) (kn kc : Nat) (ks : List Kd) (wx : World) (hb : Below w.heap.size w wx) (hk : KsY wx 0 kA kn kc ks) (hone : ∀ k ∈ ks, oneF k.nm k.fds = 0) (h16 : kn ≤ 16) => prefabs_any A n c B l wx (hr.below (hb.mono hB)) hn hnc hc hz (Nat.le_trans hB hb.size) hk hone h16)
  have HBF := Lib.hid builds73_any
  have HBW := Lib.hid below_any
  have HOV := Lib.hid ho
  have hocap := ho.cap
  have hocap2 := ho.cap2
  obtain ⟨td, htd⟩ : ∃ td, td = (bits BinOp.and IntKind.i64 turn 7 == 7) := ⟨_, rfl⟩
  have HTD := Lib.hid htd
  clear hr hn hz ho htd
  go_enter Try.func14, Try.ntmps14
  go_wp2_with fail
  (with_reducible refine HKD.out.mono ?_)
  clear HKD
  rintro e w1 ⟨kA, kn, kc, ks, rfl, HK, hb1⟩
  have HB1 := Lib.hid hb1
  have hkn4 := HK.out.2.2.2.2
  clear hb1
  go_wp2_with fail
  (with_reducible refine (HPF.out kA kn kc ks w1 HB1.out HK.out.1 (gen_one HK.out.2.1) (by omega)).mono ?_)
  clear HPF
  rintro e w2 ⟨TA, tn, tc, ts, rfl, HT, hb2⟩
  have HB2 : Hid (Below w.heap.size w w2) := Lib.hid (HB1.out.trans (hb2.mono HB1.out.size))
  have HK2 : Hid (KsY w2 0 kA kn kc ks) := Lib.hid (HK.out.1.keep (F := []) (Kx.of_below (B := 0) hb2) (by simp) (by simp))
  have ht1 := HT.out.2.1
  have ht4 := HT.out.2.2
  have htcap := HT.out.1.y.cap
  have htcap2 := HT.out.1.y.cap2
  have HONE : Hid (∀ k ∈ ks, oneF k.nm k.fds = 0) := Lib.hid (gen_one HK.out.2.1)
  have HV : Hid (TplV ks ts) := Lib.hid (HT.out.1.tplV (HK.out.2.1.check (by rw [List.length_map, ← HK.out.2.2.1]; exact hkn4)) ht4)
  clear hb2
  go_wp2_with fail
  (with_reducible refine (HBW.out x tn w2 (by omega) (by omega)).mono ?_)
  clear HBW
  rintro e w3 ⟨rfl, rfl⟩
  obtain ⟨w3, rfl⟩ : ∃ q, q = w2 := ⟨_, rfl⟩
  obtain ⟨nn, hnn⟩ : ∃ nn : Nat, x % (tn : Int) = nn := ⟨(x % (tn : Int)).toNat, by have := Int.emod_nonneg x (show (tn : Int) ≠ 0 by omega); omega⟩
  have hnt : nn < tn := by have := Int.emod_lt_of_pos x (show (0 : Int) < tn by omega); omega
  rw [hnn]
  clear hnn
  obtain ⟨t, htn⟩ : ∃ t, ts[nn]? = some t := ⟨_, List.getElem?_eq_getElem (by have := HT.out.1.len; omega)⟩
  have htp : (ts.map Pf.p)[nn]? = some t.p := by rw [List.getElem?_map, htn]; rfl
  have hlen4 : (ts.map Pf.p).length ≤ 4 := by rw [List.length_map, ← HT.out.1.len]; exact ht4
  obtain ⟨H, e9, X, hbo⟩ := HT.out.1.dr.bldOk hlen4 htp (ovs.map Ov.p)
  have HTS : Hid (PfsY w3 0 TA tn tc ts) := Lib.hid HT.out.1.y
  have HBO := Lib.hid hbo
  have hpth := (buildF_both (ks.map Kd.p) (ts.map Pf.p) 20 nn []).2
  rw [hbo.h0] at hpth
  have HPTH := Lib.hid hpth
  have HKX : Hid (∀ wx, Kx 0 [40] w3 wx → KsOk wx wx.heap.size kA kn kc ks ∧ PfsOk wx wx.heap.size TA tn tc ts) := Lib.hid fun wx hk => ⟨(HK2.out.keep hk (by decide) (by decide)).ok_, (HTS.out.keep hk (by decide) (by decide) (by decide) (by decide) (by decide)).ok_⟩
  have HCON : Hid (∀ (wx : World) (os : Osv) (e' : Int) (X' : List Blt), Below w3.heap.size w3 wx → buildF (ks.map Kd.p) (ts.map Pf.p) 20 nn os = (e', X') → ∀ (pA : Option Addr) (pn pc : Nat) (pl : List Ov), OvsOk wx wx.heap.size pA pn pc pl → pl.map Ov.p = os → Calls Try.prog 72 #[.slice kA kn kc, .slice TA tn tc, .int .i64 nn, .slice pA pn pc] wx (ConP wx ks (e', X'))) := Lib.hid fun wx os e' X' hb he pA pn pc pl hp hpe => by
    obtain ⟨h1, h2⟩ := HKX.out wx (Kx.of_below hb)
    have h := construct_any h1 h2 HV.out.tp HONE (fun t ht => HT.out.1.dr.comps t ht) 20 (by decide) nn (by omega) hnt wx pA pn pc pl (Below.refl _ _) hp
    rw [hpe, he] at h
    exact h
  have HDF : Hid (∀ (wx : World) (os : Osv) (base wn wc : Nat) (WA : Option Addr) (lw : List Bt), Below w3.heap.size w3 wx → CnI wx base ks WA wn wc lw → lw.map Bt.p = X → BldOk (ks.map Kd.p) (ts.map Pf.p) nn os H 0 X → Calls Try.prog 62 #[.slice kA kn kc, .slice TA tn tc, .int .i64 nn, .slice WA wn wc] wx fun e w' => Below wx.heap.size wx w' ∧ ∃ (A : Option Addr) (m c : Nat) (l : List Ov), e = .returned (.tuple #[.slice A m c, .int .i64 0]) ∧ Hid (OvI w' wx.heap.size A m c l ∧ l.map Ov.p = diffD H X)) := Lib.hid fun wx os base wn wc WA lw hb h1 h2 h3 => by
    obtain ⟨g1, g2⟩ := HKX.out wx (Kx.of_below hb)
    exact diffC_any g1 g2 HV.out hnt h1 h2 h3
  have HDL : Hid (∀ (wx : World) (wn wc : Nat) (WA : Option Addr), Kx 0 [40] w3 wx → wn ≠ H.length → wn ≤ wc → wc ≤ 9223372036854775807 → Calls Try.prog 62 #[.slice kA kn kc, .slice TA tn tc, .int .i64 nn, .slice WA wn wc] wx fun e w' => e = .returned (.tuple #[.slice none 0 0, .int .i64 8]) ∧ Below wx.heap.size wx w') := Lib.hid fun wx wn wc WA hk h1 h2 h3 => by
    obtain ⟨g1, g2⟩ := HKX.out wx hk
    exact diffLen_any g1 g2 HV.out hnt HBO.out.h0 h1 h2 h3
  have HCN : Hid (∀ (wx : World), Below w3.heap.size w3 wx → OvsOk wx wx.heap.size oA on oc ovs → Calls Try.prog 63 #[.slice kA kn kc, .slice TA tn tc, .int .i64 nn, .slice oA on oc] wx fun e w' => Below wx.heap.size wx w' ∧ ((e9 ≠ 0 ∧ e = .returned (.tuple #[.slice none 0 0, .int .i64 e9])) ∨ (e9 = 0 ∧ ∃ (A : Option Addr) (m c : Nat) (l : List Ov), e = .returned (.tuple #[.slice A m c, .int .i64 0]) ∧ Hid (OvI w' wx.heap.size A m c l ∧ l.map Ov.p = diffD H X)))) := Lib.hid fun wx hb h1 => by
    obtain ⟨g1, g2⟩ := HKX.out wx (Kx.of_below hb)
    exact clean_any g1 g2 HV.out hnt h1 HBO.out
  have HOV3 : Hid (∀ wx, Below w3.heap.size w3 wx → OvsOk wx wx.heap.size oA on oc ovs) := Lib.hid fun wx hb => by
    have h1 := HOV.out.below ((HB2.out.trans (hb.mono HB2.out.size)).mono hB)
    exact (OvsY.of_ok (B := wx.heap.size) h1 h1.lo).ok_
  clear htn htp hlen4 hbo HT HK HK2 HTS HV HOV hpth HKX
  have HNIL : Hid (OvsOk w3 w3.heap.size none 0 0 []) := Lib.hid ⟨Rd.nil_ _, rfl, Nat.le_refl _, by omega, (fun x hx => by cases hx), Nat.le_refl _⟩
  go_wp2_with fail
  (with_reducible refine (HCON.out w3 _ _ _ (Below.refl _ _) HBO.out.h0 none 0 0 [] HNIL.out rfl).mono ?_)
  clear HNIL
  rintro e w4 ⟨hb4, hor⟩
  have HB4 := Lib.hid hb4
  clear hb4
  rcases hor with ⟨h0, _⟩ | ⟨_, hA, hm, hcp, lh, rfl, HLH0⟩
  · exact absurd rfl h0
  have HLH : Hid (CnI w4 w3.heap.size ks hA hm hcp lh ∧ lh.map Bt.p = H) := HLH0
  have hhcap := own_cap2 HLH.out.1.own
  have hhc1 := hhcap.1
  have hhc2 := hhcap.2
  clear HLH0 hhcap
  go_wp2_with fail
  (with_reducible refine (HCON.out w4 _ _ _ HB4.out HBO.out.h1 oA on oc ovs (HOV3.out w4 HB4.out) rfl).mono ?_)
  clear HCON
  rintro e w5 ⟨hb5, hor⟩
  have HB5 : Hid (Below w3.heap.size w3 w5) := Lib.hid (HB4.out.trans (hb5.mono HB4.out.size))
  have HLH5 : Hid (CnI w5 w3.heap.size ks hA hm hcp lh) := Lib.hid (HLH.out.1.keepB hb5)
  have hs5 : w4.heap.size ≤ w5.heap.size := hb5.size
  clear hb5
  rcases hor with ⟨h0, rfl⟩ | ⟨h0, bA, bn, bc, lb, rfl, HLB0⟩
  · have h0 : e9 ≠ 0 := h0
    have t0 : (e9 != 0) = true := by simp [h0]
    have t1 : (e9 == e9) = true := by simp
    clear HDF HDL HLH HLH5
    go_wp2_with fail
    (with_reducible refine (HCN.out w5 HB5.out (HOV3.out w5 HB5.out)).mono ?_)
    clear HCN HOV3
    rintro e w6 ⟨hb6, hor⟩
    have HB6 : Hid (Below w3.heap.size w3 w6) := Lib.hid (HB5.out.trans (hb6.mono HB5.out.size))
    clear hb6
    rcases hor with ⟨_, rfl⟩ | ⟨h9, _⟩
    · go_wp2_with fail
      (with_reducible refine (HBF.out _).mono ?_)
      clear HBF
      rintro e w7 ⟨rfl, hb7⟩
      have HB7 : Hid (Below w.heap.size w w7) := Lib.hid (HB2.out.trans ((HB6.out.trans (hb7.mono HB6.out.size)).mono HB2.out.size))
      clear hb7
      go_wp2_with fail
      go_ret
      exact ⟨rfl, HB7.out⟩
    · exact absurd h9 h0
  · have h0 : e9 = 0 := h0
    subst h0
    have HLB : Hid (CnI w5 w4.heap.size ks bA bn bc lb ∧ lb.map Bt.p = X) := HLB0
    have hbcap := own_cap2 HLB.out.1.own
    have hbc1 := hbcap.1
    have hbc2 := hbcap.2
    have hb200 : bn ≤ 200 := by
      have h1 := congrArg List.length HLB.out.2
      rw [List.length_map] at h1
      have h2 := (buildF_both (ks.map Kd.p) (ts.map Pf.p) 20 nn (ovs.map Ov.p)).1
      rw [HBO.out.h1] at h2
      have h3 : X.length ≤ 200 := h2
      have := HLB.out.1.len
      omega
    have hbH : bn = H.length := by
      have h1 := congrArg List.length (HBO.out.shp rfl)
      rw [List.length_map, List.length_map, ← HLB.out.2, List.length_map, ← HLB.out.1.len] at h1
      exact h1.symm
    have HBH := Lib.hid hbH
    clear HLB0 hbcap hbH
    go_wp2_with fail
    (with_reducible refine (HCN.out w5 HB5.out (HOV3.out w5 HB5.out)).mono ?_)
    clear HCN HOV3
    rintro e w6 ⟨hb6, hor⟩
    have HB6 : Hid (Below w3.heap.size w3 w6) := Lib.hid (HB5.out.trans (hb6.mono HB5.out.size))
    rcases hor with ⟨h9, _⟩ | ⟨_, cA, cm, cc, lc, rfl, HC0⟩
    · exact absurd rfl h9
    have HC : Hid (OvI w6 w5.heap.size cA cm cc lc ∧ lc.map Ov.p = diffD H X) := HC0
    have HLH6 : Hid (CnI w6 w3.heap.size ks hA hm hcp lh) := Lib.hid (HLH5.out.keepB hb6)
    have HLB6 : Hid (CnI w6 w4.heap.size ks bA bn bc lb) := Lib.hid (HLB.out.1.keepB hb6)
    have hs6 : w4.heap.size ≤ w6.heap.size := Nat.le_trans hs5 hb6.size
    have hccap := own_cap2 HC.out.1.own
    have hcc1 := hccap.1
    have hcc2 := hccap.2
    clear hb6 hccap HC0 HLH5
    go_wp2_with fail
    (with_reducible refine (HBF.out _).mono ?_)
    clear HBF
    rintro e w7 ⟨rfl, hb7⟩
    have HB7 : Hid (Below w3.heap.size w3 w7) := Lib.hid (HB6.out.trans (hb7.mono HB6.out.size))
    have HLH7 : Hid (CnI w7 w3.heap.size ks hA hm hcp lh) := Lib.hid (HLH6.out.keepB hb7)
    have HLB7 : Hid (CnI w7 w4.heap.size ks bA bn bc lb) := Lib.hid (HLB6.out.keepB hb7)
    have hs7 : w4.heap.size ≤ w7.heap.size := Nat.le_trans hs6 hb7.size
    have HC7 : Hid (OvI w7 w5.heap.size cA cm cc lc) := Lib.hid (HC.out.1.keepB hb7)
    clear hb7 HLH6 HLB6
    cases td
    · have t7 : (bits BinOp.and IntKind.i64 turn 7 == 7) = false := HTD.out.symm
      clear HDL
      go_wp2_with fail
      (with_reducible refine (HDF.out w7 _ _ _ _ _ _ HB7.out HLB7.out HLB.out.2 HBO.out).mono ?_)
      clear HDF
      rintro e w8 ⟨hb8, dA, dm, dc, ld, rfl, HD⟩
      have HB8 : Hid (Below w3.heap.size w3 w8) := Lib.hid (HB7.out.trans (hb8.mono HB7.out.size))
      have HLH8 : Hid (CnI w8 w3.heap.size ks hA hm hcp lh) := Lib.hid (HLH7.out.keepB hb8)
      have HLB8 : Hid (CnI w8 w4.heap.size ks bA bn bc lb) := Lib.hid (HLB7.out.keepB hb8)
      have HC8 : Hid (OvI w8 w5.heap.size cA cm cc lc) := Lib.hid (HC7.out.keepB hb8)
      have hdcap := own_cap2 HD.out.1.own
      have hdc1 := hdcap.1
      have hdc2 := hdcap.2
      have HRP : Hid (Calls Try.prog 74 #[.slice hA hm hcp, .slice bA bn bc] w8 fun e w' => Below w8.heap.size w8 w' ∧ ∃ (A : Option Addr) (m c : Nat) (l : List Ov), e = .returned (.slice A m c) ∧ Hid (OvI w' w8.heap.size A m c l ∧ l.map Ov.p = diffD H X)) := Lib.hid (by
        have h := replaced_any (w := w8) HLB8.out.okB HLH8.out (by rw [HLH.out.2, HLB.out.2]; exact HBO.out.shp rfl)
          (fun y hy d hd v hvv => HBO.out.wf rfl y.p (by rw [← HLB.out.2]; exact List.mem_map_of_mem hy) d.p (List.mem_map_of_mem hd) v hvv)
          (fun z hz => by have h1 := HPTH.out z.p (by rw [← HLH.out.2]; exact List.mem_map_of_mem hz); have h2 : z.p.1.length = z.path.length := rfl; omega)
          (by rw [HLH.out.2, HLB.out.2]; exact Nat.le_trans (HBO.out.le rfl) (HBO.out.few rfl))
        rw [HLH.out.2, HLB.out.2] at h
        exact h)
      clear hb8 hdcap HLH7 HLB7 HC7
      go_wp2_with fail
      (with_reducible refine HRP.out.mono ?_)
      clear HRP
      rintro e w9 ⟨hb9, rA, rm, rc, lr, rfl, HR⟩
      have HB9 : Hid (Below w3.heap.size w3 w9) := Lib.hid (HB8.out.trans (hb9.mono HB8.out.size))
      have HC9 : Hid (OvI w9 w5.heap.size cA cm cc lc) := Lib.hid (HC8.out.keepB hb9)
      have HD9 : Hid (OvI w9 w7.heap.size dA dm dc ld) := Lib.hid (HD.out.1.keepB hb9)
      have hr40 : rm ≤ 40 := by
        have h1 := HR.out.1.len
        have h2 := congrArg List.length HR.out.2
        rw [List.length_map] at h2
        have h3 := HBO.out.le rfl
        have h4 := HBO.out.few rfl
        omega
      have hrz : ¬ ((40 : Int) < rm) := by omega
      have hrcap := own_cap2 HR.out.1.own
      have hrc1 := hrcap.1
      have hrc2 := hrcap.2
      have HCLN : Hid (∀ wx, wx = w9 → Calls Try.prog 75 #[.slice rA rm rc] wx (RetS wx 158 4 rm (ovCs lr))) := Lib.hid fun wx e => by
        rw [e]
        exact cloneOv_any rA rm rc w9.heap.size (ovCs lr) w9 HR.out.1.y.ok_.rd (ovCs_one lr) (Nat.le_refl _) (by omega)
      clear hb9 hrcap HC8
      go_wp2_with fail
      (with_reducible refine (HCLN.out _ rfl).mono ?_)
      clear HCLN
      rintro e wa ⟨sA, sc, rfl, howa, hba⟩
      have HBA : Hid (Below w3.heap.size w3 wa) := Lib.hid (HB9.out.trans (hba.mono HB9.out.size))
      have HCA : Hid (OvI wa w5.heap.size cA cm cc lc) := Lib.hid (HC9.out.keepB hba)
      have HDA : Hid (OvI wa w7.heap.size dA dm dc ld) := Lib.hid (HD9.out.keepB hba)
      have HRA : Hid (OvI wa w8.heap.size rA rm rc lr) := Lib.hid (HR.out.1.keepB hba)
      have HSA : Hid (OvI wa w9.heap.size sA rm sc lr) := Lib.hid ⟨howa, HR.out.1.len, HRA.out.ok⟩
      have hscap := own_cap2 howa
      have hsc1 := hscap.1
      have hsc2 := hscap.2
      have hsrt : SrtF lr cmpO := SrtP.srt (by rw [HR.out.2]; exact HBO.out.srt rfl)
      have HST := Lib.hid (sortStable_any (F := 77) (C := fun x y => lexC x.path y.path) enters77 HSA.out.y.ok_ (fun wx x y hb hx hy => clo77_any (B := wa.heap.size) x y ((HSA.out.y.ok_.ok x hx).below hb) ((HSA.out.y.ok_.ok y hy).below hb) hb.size) hsrt.lex (by omega))
      clear hba howa hscap hsrt HC9 HD9
      go_wp2_with fail
      (with_reducible refine HST.out.mono ?_)
      clear HST
      rintro e wb ⟨rfl, hbb⟩
      have HBB : Hid (Below w3.heap.size w3 wb) := Lib.hid (HBA.out.trans (hbb.mono HBA.out.size))
      have HCB : Hid (OvI wb w5.heap.size cA cm cc lc) := Lib.hid (HCA.out.keepB hbb)
      have HDB : Hid (OvI wb w7.heap.size dA dm dc ld) := Lib.hid (HDA.out.keepB hbb)
      have HRB : Hid (OvI wb w8.heap.size rA rm rc lr) := Lib.hid (HRA.out.keepB hbb)
      have HSB : Hid (OvI wb w9.heap.size sA rm sc lr) := Lib.hid (HSA.out.keepB hbb)
      have HE1 : Hid (Calls Try.prog 79 #[.slice dA dm dc, .slice rA rm rc, .func (.func 80) #[] #[]] wb fun e w' => e = .returned (.bool true) ∧ Below wb.heap.size wb w') := Lib.hid (by
        have h := eqFuncOv_any (F := 80) Ov.p enters80 HDB.out.y.ok_ HRB.out.y.ok_ (fun wx x y _ _ h1 h2 h3 h4 => same80_any x y h1 h2 h3 h4)
        rw [decide_eq_true (HD.out.2.trans HR.out.2.symm)] at h
        exact h)
      have HE2 : Hid (∀ wx, Below wb.heap.size wb wx → Calls Try.prog 79 #[.slice cA cm cc, .slice sA rm sc, .func (.func 80) #[] #[]] wx fun e w' => e = .returned (.bool true) ∧ Below wx.heap.size wx w') := Lib.hid fun wx hb => by
        have h := eqFuncOv_any (F := 80) Ov.p enters80 (HCB.out.keepB hb).y.ok_ (HSB.out.keepB hb).y.ok_ (fun wx x y _ _ h1 h2 h3 h4 => same80_any x y h1 h2 h3 h4)
        rw [decide_eq_true (HC.out.2.trans HR.out.2.symm)] at h
        exact h
      clear hbb HCA HDA HRA HSA
      go_wp2_with fail
      (with_reducible refine HE1.out.mono ?_)
      clear HE1
      rintro e wc1 ⟨rfl, hbc⟩
      have HBC : Hid (Below wb.heap.size wb wc1) := Lib.hid hbc
      clear hbc
      go_wp2_with fail
      (with_reducible refine (HE2.out wc1 HBC.out).mono ?_)
      clear HE2
      rintro e wd ⟨rfl, hbd⟩
      have HBD : Hid (Below w.heap.size w wd) := Lib.hid (HB2.out.trans ((HBB.out.trans ((HBC.out.trans (hbd.mono HBC.out.size)).mono HBB.out.size)).mono HB2.out.size))
      clear hbd
      go_wp2_with fail
      go_ret
      exact ⟨rfl, HBD.out⟩
    · have t7 : (bits BinOp.and IntKind.i64 turn 7 == 7) = true := HTD.out.symm
      clear HDF
      go_upto_region 13 with fail
      go_wp2_with
        (at_builtin
         go_must (refine wpList_append_one _ rfl (.tmp 77) (.tmp 79) 35 rfl w4.heap.size 40 i40 (.agg #[.slice none 0 0, .slice none 0 0]) 2 48 Try.underlying35 hi40 hy0 hy1 hy2 rfl (by decide) (.slice bA bn bc) bn (btCs lb) rfl (HLB7.out.own.alloc _) w7.heap.size 1 40 #[.slice none 0 0, .slice none 0 0] rfl (Bk.new w7 _ _) rfl ?c1 (bn + 1) rfl ?c2 ?c3 ?c4 ?_)
         case c1 => simp [Value.oneCell']
         case c2 => unfold maxLen; omega
         case c3 => omega
         case c4 => (simp; omega)
         intro g8 c8 w8 hown8 hg8 hat8
         have HK8 : Hid (Kx 0 [40] w3 w8) := Lib.hid ((Kx.of_below (B := 0) HB7.out).trans (((Kx.refl (B := 0)).alloc _).grown (HLB7.out.own.alloc _) hg8 (Nat.zero_le _) (by simp)))
         have HB8 : Hid (Below w3.heap.size w3 w8) := Lib.hid (HB7.out.trans (((Below.refl _ _).alloc HB7.out.size _).trans ⟨hg8.os, hg8.tape, hg8.output, hg8.size, fun q hq => hg8.block q (by have := HB7.out.size; simp; omega) (fun e => by have := (HLB7.out.own.lt q e.symm).1; have := HB4.out.size; omega)⟩))
         have hcp8 := own_cap2 hown8
         have h81 := hcp8.1
         have h82 := hcp8.2
         clear hown8 hg8 hat8 hcp8)
      (with_reducible refine (HDL.out w8 (bn + 1) c8 (some ⟨g8, 0, none⟩) HK8.out (by have := HBH.out; omega) h81 h82).mono ?_)
      clear HDL
      rintro e w9 ⟨rfl, hb9⟩
      have HB9 : Hid (Below w.heap.size w w9) := Lib.hid (HB2.out.trans ((HB8.out.trans (hb9.mono HB8.out.size)).mono HB2.out.size))
      clear hb9
      go_wp2_with fail
      go_ret
      exact ⟨rfl, HB9.out⟩
end Go.Proofs.Ytnidcmhfbkdioaa
