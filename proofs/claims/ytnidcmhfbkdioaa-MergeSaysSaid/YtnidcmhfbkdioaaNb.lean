/-
  The walk of the law MergeOne. Conditions: two lists of numbers that can be read.
-/
import Derived.Test.YtnidcmhfbkdioaaNa
import Derived.Test.YtnidcmhfbkdioaaMy
namespace Go.Proofs.Ytnidcmhfbkdioaa
open Go.RowKit
set_option maxRecDepth 100000

/-- Merging at three worlds of the same kinds, said with the cells. -/
theorem three_st {w : World} {O X Y : Wd} (hO : WdY w 0 O) (hX : WdY w 0 X) (hY : WdY w 0 Y) (cO : checkF O.p.ks = 0) (vO : VW holdK O.p) (vX : VW holdK X.p) (vY : VW holdK Y.p) (kX : X.p.ks = O.p.ks) (kY : Y.p.ks = O.p.ks) :
    Calls Try.prog 31 #[.agg #[.slice O.kA O.kn O.kc, .slice O.gA O.gn O.gc, .slice O.iA O.im O.ic], .agg #[.slice X.kA X.kn X.kc, .slice X.gA X.gn X.gc, .slice X.iA X.im X.ic], .agg #[.slice Y.kA Y.kn Y.kc, .slice Y.gA Y.gn Y.gc, .slice Y.iA Y.im Y.ic]] w
      fun e w' => ∃ (Z : Wd) (CA : Option Addr) (n c : Nat), e = .returned (.tuple #[.agg #[.slice Z.kA Z.kn Z.kc, .slice Z.gA Z.gn Z.gc, .slice Z.iA Z.im Z.ic], .slice CA n c, .int .i64 0]) ∧ Hid (WdY w' 0 Z ∧ Z.p = mergeF O.p X.p Y.p) ∧ Hid (n = (mergeC O.p X.p Y.p).length ∧ n ≤ c ∧ c ≤ 9223372036854775807 ∧ RdY w' 0 73 4 CA n (clCs (mergeC O.p X.p Y.p))) ∧ Below w.heap.size w w' :=
  three_ok hO.ok_ hX.ok_ hY.ok_ (check_of cO vO) (check_of (by rw [kX]; exact cO) vX) (check_of (by rw [kY]; exact cO) vY) kX kY
theorem same_st {w : World} {X Y : Wd} (hX : WdY w 0 X) (hY : WdY w 0 Y) (h : X.p = Y.p) :
    Calls Try.prog 38 #[.agg #[.slice X.kA X.kn X.kc, .slice X.gA X.gn X.gc, .slice X.iA X.im X.ic], .agg #[.slice Y.kA Y.kn Y.kc, .slice Y.gA Y.gn Y.gc, .slice Y.iA Y.im Y.ic]] w fun e w' => e = .returned (.bool true) ∧ Below w.heap.size w w' :=
  (wsame_any hX.ok_ hY.ok_).mono fun e w' h1 => ⟨by rw [h1.1, decide_eq_true h], h1.2⟩

set_option maxHeartbeats 4000000 in
theorem mergeOne_any (A A' : Option Addr) (n c n' c' B : Nat) (zs zs' : List Int) (w : World) (hr : Rd w B 1 A n (zs.map (Value.int .i64))) (hn : n = zs.length) (hnc : n ≤ c) (hc : c ≤ 9223372036854775807) (hz : ∀ z ∈ zs, (Lit.int .i64 z).wf = true)
    (hr' : Rd w B 1 A' n' (zs'.map (Value.int .i64))) (hn' : n' = zs'.length) (hnc' : n' ≤ c') (hc' : c' ≤ 9223372036854775807) (hz' : ∀ z ∈ zs', (Lit.int .i64 z).wf = true) (hB : B ≤ w.heap.size) :
    Calls Try.prog 6 #[.slice A n c, .slice A' n' c'] w fun e w' => e = .returned (.bool true) ∧ Below w.heap.size w w' := by
  have HWO := Lib.hid (world_any A n c B zs w hr hn hnc hc hz hB)
  have HMG := Lib.hid merges_any
  have HCH := Lib.hid (fun (x : Wd) (wx : World) (hb : Below w.heap.size w wx) (hx : WdY wx 0 x) (hv : VW holdK x.p) (hck : checkF x.p.ks = 0) (h256 : x.gens.length < 256) => changed_any x A' n' c' B zs' wx hx hv hck h256 (hr'.below (hb.mono hB)) hn' hnc' hc' hz' (Nat.le_trans hB hb.size))
  clear hr hn hnc hc hz hr' hn' hnc' hc' hz'
  go_enter Try.func6, Try.ntmps6
  go_wp2_with fail
  (with_reducible refine HWO.out.mono ?_)
  rintro e w1 ⟨y, rfl, hy, hb1⟩
  obtain ⟨W1, hW1⟩ : ∃ W1, W1 = w1.alloc (.cells #[.slice y.kA y.kn y.kc, .slice y.gA y.gn y.gc, .slice y.iA y.im y.ic] 52) := ⟨_, rfl⟩
  obtain ⟨bY, hbY⟩ : ∃ b, b = w1.heap.size := ⟨_, rfl⟩
  have HY1 : Hid (St W1 bY y) := Lib.hid (by rw [hW1, hbY]; exact St.new hy.out.1)
  have HB1 : Hid (Below w.heap.size w W1) := Lib.hid (by rw [hW1]; exact hb1.alloc hb1.size _)
  have HY : Hid (VW holdK y.p ∧ checkF y.p.ks = 0 ∧ y.p.gens.length ≤ 11) := Lib.hid hy.out.2
  have hcs := HY1.out.cs
  obtain ⟨y0, y1, y2⟩ := hcs
  clear hy hb1 HWO
  dsimp only [Wd.v]
  go_upto_region 2 with fail
  rw [← hW1, ← hbY]
  clear hW1 hbY
  have hch := HCH.out y W1 HB1.out HY1.out.2 HY.out.1 HY.out.2.1 (by have h : y.gens.length ≤ 11 := HY.out.2.2; omega)
  have HC : Hid (Calls Try.prog 30 #[.agg #[.slice y.kA y.kn y.kc, .slice y.gA y.gn y.gc, .slice y.iA y.im y.ic], .slice A' n' c'] W1 fun e w' => ∃ a : Wd, e = .returned (.agg #[.slice a.kA a.kn a.kc, .slice a.gA a.gn a.gc, .slice a.iA a.im a.ic]) ∧ Hid (WdY w' 0 a ∧ VW holdK a.p ∧ Newer y.p a.p ∧ a.p.ks = y.p.ks) ∧ Below W1.heap.size W1 w') := Lib.hid hch
  clear hch HCH
  go_wp2_with fail
  (with_reducible refine HC.out.mono ?_)
  rintro e w2 ⟨a, rfl, ha, hb2⟩
  clear HC y0 y1 y2
  obtain ⟨W2, hW2⟩ : ∃ W2, W2 = w2.alloc (.cells #[.slice a.kA a.kn a.kc, .slice a.gA a.gn a.gc, .slice a.iA a.im a.ic] 52) := ⟨_, rfl⟩
  obtain ⟨bA, hbA⟩ : ∃ b, b = w2.heap.size := ⟨_, rfl⟩
  have HA2 : Hid (St W2 bA a) := Lib.hid (by rw [hW2, hbA]; exact St.new ha.out.1)
  have HY2 : Hid (St W2 bY y) := Lib.hid (by rw [hW2]; exact (HY1.out.below hb2).alloc _)
  have HB2 : Hid (Below w.heap.size w W2) := Lib.hid (by rw [hW2]; exact ((HB1.out.trans (hb2.mono HB1.out.size)).alloc (HB1.out.trans (hb2.mono HB1.out.size)).size _))
  have HA : Hid (VW holdK a.p ∧ Newer y.p a.p ∧ a.p.ks = y.p.ks) := Lib.hid ha.out.2
  obtain ⟨y0, y1, y2⟩ := HY2.out.cs
  obtain ⟨a0, a1, a2⟩ := HA2.out.cs
  clear ha hb2 HB1 HY1
  go_upto_region 3 with fail
  rw [← hW2, ← hbA]
  clear hW2 hbA
  -- the first merge: only the first version was changed
  have ht := three_st HY2.out.2 HA2.out.2 HY2.out.2 HY.out.2.1 HY.out.1 HA.out.1 HY.out.1 HA.out.2.2 rfl
  rw [merge_xo HA.out.1 HA.out.2.1, mergeC_xo] at ht
  have HT := Lib.hid ht
  clear ht
  go_wp2_with fail
  (with_reducible refine HT.out.mono ?_)
  rintro e w3 ⟨p, CA, m, mc, rfl, hp, hm, hb3⟩
  obtain rfl : m = 0 := hm.out.1
  clear hm HT y0 y1 y2 a0 a1 a2
  obtain ⟨W3, hW3⟩ : ∃ W3, W3 = w3.alloc (.cells #[.slice p.kA p.kn p.kc, .slice p.gA p.gn p.gc, .slice p.iA p.im p.ic] 52) := ⟨_, rfl⟩
  obtain ⟨bP, hbP⟩ : ∃ b, b = w3.heap.size := ⟨_, rfl⟩
  have HP3 : Hid (St W3 bP p ∧ p.p = a.p) := Lib.hid ⟨by rw [hW3, hbP]; exact St.new hp.out.1, hp.out.2⟩
  have HA3 : Hid (St W3 bA a) := Lib.hid (by rw [hW3]; exact (HA2.out.below hb3).alloc _)
  have HY3 : Hid (St W3 bY y) := Lib.hid (by rw [hW3]; exact (HY2.out.below hb3).alloc _)
  have HB3 : Hid (Below w.heap.size w W3) := Lib.hid (by rw [hW3]; exact ((HB2.out.trans (hb3.mono HB2.out.size)).alloc (HB2.out.trans (hb3.mono HB2.out.size)).size _))
  obtain ⟨y0, y1, y2⟩ := HY3.out.cs
  obtain ⟨a0, a1, a2⟩ := HA3.out.cs
  clear hp hb3 HB2 HY2 HA2
  go_upto_region 4 with fail
  rw [← hW3, ← hbP]
  clear hW3 hbP
  have ht := three_st HY3.out.2 HY3.out.2 HA3.out.2 HY.out.2.1 HY.out.1 HY.out.1 HA.out.1 rfl HA.out.2.2
  rw [merge_oy holdK_len HY.out.1 HA.out.1 HA.out.2.1, mergeC_oy] at ht
  have HT := Lib.hid ht
  clear ht
  go_wp2_with fail
  (with_reducible refine HT.out.mono ?_)
  rintro e w4 ⟨q, DA, m, dc, rfl, hp, hm, hb3⟩
  obtain rfl : m = 0 := hm.out.1
  clear hm HT y0 y1 y2 a0 a1 a2
  obtain ⟨W4, hW4⟩ : ∃ W4, W4 = w4.alloc (.cells #[.slice q.kA q.kn q.kc, .slice q.gA q.gn q.gc, .slice q.iA q.im q.ic] 52) := ⟨_, rfl⟩
  obtain ⟨bQ, hbQ⟩ : ∃ b, b = w4.heap.size := ⟨_, rfl⟩
  have HQ4 : Hid (St W4 bQ q ∧ q.p = a.p) := Lib.hid ⟨by rw [hW4, hbQ]; exact St.new hp.out.1, hp.out.2⟩
  have HP4 : Hid (St W4 bP p ∧ p.p = a.p) := Lib.hid ⟨by rw [hW4]; exact (HP3.out.1.below hb3).alloc _, HP3.out.2⟩
  have HA4 : Hid (St W4 bA a) := Lib.hid (by rw [hW4]; exact (HA3.out.below hb3).alloc _)
  have HY4 : Hid (St W4 bY y) := Lib.hid (by rw [hW4]; exact (HY3.out.below hb3).alloc _)
  have HB4 : Hid (Below w.heap.size w W4) := Lib.hid (by rw [hW4]; exact ((HB3.out.trans (hb3.mono HB3.out.size)).alloc (HB3.out.trans (hb3.mono HB3.out.size)).size _))
  obtain ⟨y0, y1, y2⟩ := HY4.out.cs
  obtain ⟨a0, a1, a2⟩ := HA4.out.cs
  clear hp hb3 HB3 HY3 HA3 HP3
  go_upto_region 5 with fail
  rw [← hW4, ← hbQ]
  clear hW4 hbQ
  have ht := three_st HY4.out.2 HA4.out.2 HA4.out.2 HY.out.2.1 HY.out.1 HA.out.1 HA.out.1 HA.out.2.2 HA.out.2.2
  rw [merge_xx HA.out.1 HA.out.2.1, mergeC_xx] at ht
  have HT := Lib.hid ht
  clear ht
  go_wp2_with fail
  (with_reducible refine HT.out.mono ?_)
  rintro e w5 ⟨r, EA, m, ec, rfl, hp, hm, hb3⟩
  obtain rfl : m = 0 := hm.out.1
  clear hm HT y0 y1 y2 a0 a1 a2
  obtain ⟨W5, hW5⟩ : ∃ W5, W5 = w5.alloc (.cells #[.slice r.kA r.kn r.kc, .slice r.gA r.gn r.gc, .slice r.iA r.im r.ic] 52) := ⟨_, rfl⟩
  obtain ⟨bR, hbR⟩ : ∃ b, b = w5.heap.size := ⟨_, rfl⟩
  have HR5 : Hid (St W5 bR r ∧ r.p = a.p) := Lib.hid ⟨by rw [hW5, hbR]; exact St.new hp.out.1, hp.out.2⟩
  have HQ5 : Hid (St W5 bQ q ∧ q.p = a.p) := Lib.hid ⟨by rw [hW5]; exact (HQ4.out.1.below hb3).alloc _, HQ4.out.2⟩
  have HP5 : Hid (St W5 bP p ∧ p.p = a.p) := Lib.hid ⟨by rw [hW5]; exact (HP4.out.1.below hb3).alloc _, HP4.out.2⟩
  have HA5 : Hid (St W5 bA a) := Lib.hid (by rw [hW5]; exact (HA4.out.below hb3).alloc _)
  have HB5 : Hid (Below w.heap.size w W5) := Lib.hid (by rw [hW5]; exact ((HB4.out.trans (hb3.mono HB4.out.size)).alloc (HB4.out.trans (hb3.mono HB4.out.size)).size _))
  clear hp hb3 HB4 HY4 HA4 HP4 HQ4
  go_upto_region 6 with fail
  rw [← hW5, ← hbR]
  clear hW5 hbR
  go_wp2_with fail
  (with_reducible refine (HMG.out _).mono ?_)
  rintro e w6 ⟨rfl, hb6⟩
  have HP6 : Hid (St w6 bP p) := Lib.hid (HP5.out.1.below hb6)
  have HQ6 : Hid (St w6 bQ q) := Lib.hid (HQ5.out.1.below hb6)
  have HR6 : Hid (St w6 bR r) := Lib.hid (HR5.out.1.below hb6)
  have HA6 : Hid (St w6 bA a) := Lib.hid (HA5.out.below hb6)
  have HB6 : Hid (Below w.heap.size w w6) := Lib.hid (HB5.out.trans (hb6.mono HB5.out.size))
  obtain ⟨p0, p1, p2⟩ := HP6.out.cs
  obtain ⟨a0, a1, a2⟩ := HA6.out.cs
  have HT := Lib.hid (same_st HP6.out.2 HA6.out.2 HP5.out.2)
  clear hb6
  go_wp2_with fail
  (with_reducible refine HT.out.mono ?_)
  rintro e w7 ⟨rfl, hb7⟩
  have HQ7 : Hid (St w7 bQ q) := Lib.hid (HQ6.out.below hb7)
  have HR7 : Hid (St w7 bR r) := Lib.hid (HR6.out.below hb7)
  have HA7 : Hid (St w7 bA a) := Lib.hid (HA6.out.below hb7)
  have HB7 : Hid (Below w.heap.size w w7) := Lib.hid (HB6.out.trans (hb7.mono HB6.out.size))
  clear p0 p1 p2 a0 a1 a2 hb7 HT HB6 HA6 HP6 HQ6 HR6
  obtain ⟨p0, p1, p2⟩ := HQ7.out.cs
  obtain ⟨a0, a1, a2⟩ := HA7.out.cs
  have HT := Lib.hid (same_st HQ7.out.2 HA7.out.2 HQ5.out.2)
  go_wp2_with fail
  (with_reducible refine HT.out.mono ?_)
  rintro e w8 ⟨rfl, hb7⟩
  have HR8 : Hid (St w8 bR r) := Lib.hid (HR7.out.below hb7)
  have HA8 : Hid (St w8 bA a) := Lib.hid (HA7.out.below hb7)
  have HB8 : Hid (Below w.heap.size w w8) := Lib.hid (HB7.out.trans (hb7.mono HB7.out.size))
  clear p0 p1 p2 a0 a1 a2 hb7 HT HB7 HA7 HQ7 HR7
  obtain ⟨p0, p1, p2⟩ := HR8.out.cs
  obtain ⟨a0, a1, a2⟩ := HA8.out.cs
  have HT := Lib.hid (same_st HR8.out.2 HA8.out.2 HR5.out.2)
  go_wp2_with fail
  (with_reducible refine HT.out.mono ?_)
  rintro e w9 ⟨rfl, hb7⟩
  clear p0 p1 p2 a0 a1 a2
  go_wp2_with fail
  go_ret
  exact ⟨rfl, HB8.out.trans (hb7.mono HB8.out.size)⟩
end Go.Proofs.Ytnidcmhfbkdioaa
