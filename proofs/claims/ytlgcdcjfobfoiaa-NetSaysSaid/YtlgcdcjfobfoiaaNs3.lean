/-
  The reference's network: the contract of Arrivals. Conditions: what is read can be read, numbers of moderate size.
-/
import Derived.Test.YtlgcdcjfobfoiaaNs2
import Derived.Test.YtlgcdcjfobfoiaaLw1
namespace Go.Proofs.Ytlgcdcjfobfoiaa
open Go.RowKit
set_option maxRecDepth 100000

def eqT (step : Int) (ks : List (Int × Int × Int × Int × List Int)) : List (Int × Int × Int × Int × List Int) := ks.filter fun k => decide (k.1 = step)
theorem eqT_append (step : Int) (a b : List (Int × Int × Int × Int × List Int)) : eqT step (a ++ b) = eqT step a ++ eqT step b := by simp [eqT]
/-- Flights whose data can be read. -/
def DatOk (w : World) (L : List Fl) : Prop := ∀ f ∈ L, Tr w 5 1 f.A f.n (f.dat.map (Value.int .u8)) ∧ f.n ≤ f.c ∧ f.c ≤ maxLen
theorem DatOk.below {w w' : World} {L : List Fl} (h : DatOk w L) (hb : Below w.heap.size w w') : DatOk w' L := fun f hf => ⟨(h f hf).1.below hb, (h f hf).2⟩
theorem DatOk.snoc {w : World} {L : List Fl} {f : Fl} (h : DatOk w L) (hf : Tr w 5 1 f.A f.n (f.dat.map (Value.int .u8)) ∧ f.n ≤ f.c ∧ f.c ≤ maxLen) : DatOk w (L ++ [f]) := fun x hx => by
  rcases List.mem_append.1 hx with hx | hx
  · exact h x hx
  · obtain rfl := List.mem_singleton.1 hx; exact hf
theorem DatOk.grown {w w' : World} {L : List Fl} {row : Option Nat} (h : DatOk w L) (hg : w.grownBy w' row) (hr : ∀ q cs, row = some q → ¬ Bk w q 5 cs) : DatOk w' L := fun f hf => ⟨(h f hf).1.grown hg hr, (h f hf).2⟩

def ArrPost (w : World) (ds : List Dd) (l : List Sn) (step : Int) (e : Ending) (w' : World) : Prop :=
  ∃ (L : List Fl) (A : Option Addr) (c : Nat), e = .returned (.slice A L.length c) ∧ L.map Fl.key = eqT step (keysOf ds l) ∧ w'.ownsRow w.heap.size 45 3 (.slice A L.length c) L.length (pkCs L) ∧ DatOk w' L ∧ Below w.heap.size w w'

set_option maxHeartbeats 2400000 in
theorem arrivals_any (DA SA : Option Addr) (n c m sc B : Nat) (step : Int) (ds : List Dd) (l : List Sn) (w : World) (hr : Rd w B 3 DA n (ddCs ds)) (hn : n = ds.length) (hn1 : n ≤ 1000) (hg : ∀ d ∈ ds, ¬ d.bad) (hs : Rd w B 4 SA m (snCs l)) (hm : m = l.length) (hm1 : m ≤ 1000)
    (ht : ∀ s ∈ l, 0 ≤ s.st ∧ s.st ≤ 1000000) (hd : ∀ s ∈ l, Rd w B 1 s.A s.n (s.dat.map (Value.int .u8)) ∧ s.n ≤ 5000) (hB : B ≤ w.heap.size) :
    Calls Try.prog 31 #[.slice DA n c, .slice SA m sc, .int .i64 step] w (ArrPost w ds l step) := by
  obtain ⟨i0, hi0, hy0, hy1, hy2⟩ := info_parts T.info45
  have HR := Lib.hid hr
  have HN := Lib.hid hn
  have HM := Lib.hid hm
  have HS := Lib.hid hs
  have HGD := Lib.hid hg
  have HT := Lib.hid ht
  have HDT := Lib.hid hd
  clear hr hn hg hs hm ht hd
  go_enter Try.func31, Try.ntmps31
  go_wp2_with fail
  go_loopw [7, 14] (fun out v wr => ∃ (k q : Nat) (L : List Fl) (OA : Option Addr) (oc : Nat), k ≤ m ∧ v = .int .i64 k ∧ out = .slice OA q oc ∧ q = L.length ∧ q ≤ k * 1001 ∧ Hid (L.map Fl.key = eqT step (keysOf ds (l.take k))) ∧ wr.ownsRow w.heap.size 45 3 (.slice OA q oc) q (pkCs L) ∧ Hid (DatOk wr L) ∧ Below w.heap.size w wr) (fun _ v _ => m - (intOf v).toNat)
  case atStart => exact ⟨0, 0, [], none, 0, Nat.zero_le _, rfl, rfl, rfl, by omega, Lib.hid (by simp [keysOf, eqT]), World.ownsRow_nil _ _ _ _, Lib.hid (fun f hf => by cases hf), Below.refl _ _⟩
  case round =>
    obtain ⟨k, q, L, OA, oc, hk, rfl, rfl, hq, hqb, HK, hown, HD, hb⟩ := hrel
    have hsz := hb.size
    have HQL := Lib.hid hq
    clear hq
    by_cases hlt : k < m
    · obtain ⟨s, hs⟩ : ∃ s, l[k]? = some s := ⟨_, List.getElem?_eq_getElem (by have := HM.out; omega)⟩
      obtain ⟨sb, so, rfl, _, q0, q1, q2, q3⟩ := (HS.out.below (hb.mono hB)).sn k s hs hlt
      have hst := HT.out s (List.mem_of_getElem? hs)
      obtain ⟨hds, hdn⟩ := HDT.out s (List.mem_of_getElem? hs)
      have hB1 := hb.alloc hsz (.cells #[.int .i64 s.st, .int .i64 s.fr, .int .i64 s.to, .slice s.A s.n s.c] 57)
      have hc := times_any DA (some ⟨sb, so, none⟩) n c m sc B k ds l s (wr.alloc (.cells #[.int .i64 s.st, .int .i64 s.fr, .int .i64 s.to, .slice s.A s.n s.c] 57)) (HR.out.below (hB1.mono hB)) HN.out hn1 HGD.out (HS.out.below (hB1.mono hB)) hlt (by omega) hs hst.1 hst.2 (by have := hB1.size; omega)
      have HC := Lib.hid hc
      have hnx := keysOf_take ds l k s hs
      have HNX := Lib.hid hnx
      have htl : (timesOf ds k s.st).length ≤ 1001 := by have := timesOf_length ds k s.st; have := HN.out; omega
      have HDS := Lib.hid hds
      have hkS : keyS ds k s = (timesOf ds k s.st).map fun t => (t, (k : Int), s.fr, s.to, s.dat) := rfl
      have HKS := Lib.hid hkS
      clear hc hs hst hnx hds hkS
      generalize timesOf ds k s.st = ts at *
      go_wp2_with fail
      refine HC.out.mono ?_
      rintro e w2 ⟨TA, tc, rfl, howT, hb2⟩
      have hh := Bk.new wr 57 #[.int .i64 s.st, .int .i64 s.fr, .int .i64 s.to, .slice s.A s.n s.c]
      have hz1 : wr.heap.size < (wr.alloc (.cells #[.int .i64 s.st, .int .i64 s.fr, .int .i64 s.to, .slice s.A s.n s.c] 57)).heap.size := by simp
      have hh2 := hh.below hb2 hh.lt
      have hbb := hB1.trans (hb2.mono (by omega))
      have hown2 : w2.ownsRow w.heap.size 45 3 (.slice OA q oc) q (pkCs L) := own_keep (hown.alloc _) hb2
      have HD2 : Hid (DatOk w2 L) := Lib.hid ((HD.out.below ((Below.refl _ _).alloc (Nat.le_refl _) _)).below hb2)
      have hTT : Tr w2 3 1 TA ts.length (ts.map (Value.int .i64)) := Tr.of_own howT
      obtain ⟨tl, htl2⟩ : ∃ tl, tl = ts.length := ⟨_, rfl⟩
      rw [← htl2] at hTT htl ⊢
      have HTL := Lib.hid htl2
      clear htl2 howT hb2 hb hsz HC hB1 hh hown HD q0 q1 q2 q3
      generalize wr.heap.size = hd at *
      go_wp2_with fail
      go_loopw [7, 24] (fun out v wx => ∃ (j q2 : Nat) (L2 : List Fl) (OA2 : Option Addr) (oc2 : Nat), j ≤ tl ∧ v = .int .i64 j ∧ out = .slice OA2 q2 oc2 ∧ q2 = L2.length ∧ q2 ≤ q + j ∧ Hid (L2.map Fl.key = eqT step (keysOf ds (l.take k) ++ (ts.take j).map fun t => (t, (k : Int), s.fr, s.to, s.dat))) ∧
        wx.ownsRow w.heap.size 45 3 (.slice OA2 q2 oc2) q2 (pkCs L2) ∧ Hid (DatOk wx L2) ∧ Bk wx hd 57 #[.int .i64 s.st, .int .i64 s.fr, .int .i64 s.to, .slice s.A s.n s.c] ∧ Tr wx 3 1 TA tl (ts.map (Value.int .i64)) ∧ Below w.heap.size w wx) (fun _ v _ => tl - (intOf v).toNat)
      case atStart => exact ⟨0, q, L, OA, oc, Nat.zero_le _, rfl, rfl, HQL.out, by omega, Lib.hid (by rw [HK.out]; simp), hown2, HD2, hh2, hTT, hbb⟩
      case round =>
        obtain ⟨j, q2, L2, OA2, oc2, hj, rfl, rfl, hq2, hq2b, HK2, hown3, HD3, hh3, hT3, hb3⟩ := hrel
        have HQ2 := Lib.hid hq2
        have hsz3 := hb3.size
        clear hq2 hown2 HD2 hh2 hTT hbb
        by_cases hjl : j < tl
        · obtain ⟨t, ht⟩ : ∃ t, ts[j]? = some t := ⟨_, List.getElem?_eq_getElem (by have := HTL.out; omega)⟩
          obtain ⟨tb, to, rfl, _, hcx⟩ := hT3.rd.at1 hjl (u := .int .i64 t) (by rw [List.getElem?_map, ht]; rfl)
          have HTT := Lib.hid ht
          clear ht
          by_cases h5 : (t == step) = true
          · have hKK : eqT step (keysOf ds (l.take k) ++ (ts.take (j + 1)).map fun t => (t, (k : Int), s.fr, s.to, s.dat)) = L2.map Fl.key ++ [(t, (k : Int), s.fr, s.to, s.dat)] := by
              rw [HK2.out, List.take_add_one, HTT.out]
              have : t = step := by simpa using h5
              subst this
              simp [eqT]
            have HKK := Lib.hid hKK
            have a1 : wr.cell? ⟨hd, 1, none⟩ = some (.int .i64 s.fr) := hh3.cell 1
            have a2 : wr.cell? ⟨hd, 2, none⟩ = some (.int .i64 s.to) := hh3.cell 2
            have a3 : wr.cell? ⟨hd, 3, none⟩ = some (.slice s.A s.n s.c) := hh3.cell 3
            have hcl := bytesClone_any s.A s.n s.c B (s.dat.map (Value.int .u8)) wr.drew (HDS.out.below (hb3.drew.mono hB)) (ints_one _ _) (by show B ≤ wr.heap.size; omega) (by omega)
            have HCL := Lib.hid hcl
            clear hKK hcl
            have hhl := hh3.lt
            go_wp2_with fail
            go_region_held3 (fun w' => w'.cell? ⟨hd, 1, none⟩ = some (.int .i64 s.fr) ∧ w'.cell? ⟨hd, 2, none⟩ = some (.int .i64 s.to) ∧ w'.cell? ⟨hd, 3, none⟩ = some (.slice s.A s.n s.c)) (first | go_keep | (with_reducible exact ⟨b1, b2, b3⟩) | (with_reducible exact ⟨x1, x2, x3⟩))
              (first
               | (go_at_call 69; (with_reducible refine HCL.out.mono ?_); rintro e w4 ⟨A4, c4, rfl, hown4, hb4⟩; have hh4 := Bk.below (w := wr.drew) (hh3.drewN 1) hb4 hh3.lt; have b1 : w4.cell? ⟨hd, 1, none⟩ = some (.int .i64 s.fr) := hh4.cell 1; have b2 : w4.cell? ⟨hd, 2, none⟩ = some (.int .i64 s.to) := hh4.cell 2; have b3 : w4.cell? ⟨hd, 3, none⟩ = some (.slice s.A s.n s.c) := hh4.cell 3; have hsz4 : wr.heap.size ≤ w4.heap.size := hb4.size; have ho4 : w4.ownsRow w.heap.size 45 3 (.slice OA2 q2 oc2) q2 (pkCs L2) := own_keep (w := wr.drew) hown3 hb4)
               | ((refine step_append_one rfl (.tmp 31) (.tmp 43) 42 rfl w.heap.size 45 i0 (.agg #[.int .i64 0, .int .i64 0, .slice none 0 0]) 3 40 Try.underlying42 hi0 hy0 hy1 hy2 rfl (by decide) (.slice OA2 q2 oc2) q2 (pkCs L2) rfl (ho4.alloc _) w4.heap.size 1 45 #[.int .i64 s.fr, .int .i64 s.to, .slice A4 s.n c4] rfl (Bk.new _ _ _) rfl (by simp [Value.oneCell']) (q2 + 1) rfl (by unfold maxLen; omega) (by omega) (by simp; omega) ?_); intro g5 cc5 w5 hown5 hg5 hat5; have hh5 := (hh4.alloc (.cells #[.int .i64 s.fr, .int .i64 s.to, .slice A4 s.n c4] 45)).grown hg5 (fun e => absurd (own_type (ho4.alloc (.cells #[.int .i64 s.fr, .int .i64 s.to, .slice A4 s.n c4] 45)) e.symm (hh4.alloc _)) (by decide)); have x1 := hh5.cell 1; have x2 := hh5.cell 2; have x3 := hh5.cell 3))
            have hD4 : DatOk w4 L2 := (HD3.out.below (Below.refl _ _).drew).below hb4
            have hf4 : Tr w4 5 1 A4 s.n (s.dat.map (Value.int .u8)) := Tr.of_own hown4
            have hcap4 := own_cap hown4
            have hT4 : Tr w4 3 1 (some ⟨tb, to, none⟩) tl (ts.map (Value.int .i64)) := (hT3.below (Below.refl _ _).drew).below hb4
            have hbel4 : Below w.heap.size w w4 := hb3.drew.trans (hb4.mono hsz3)
            have hA4 := (Below.refl w4.heap.size w4).alloc (Nat.le_refl _) (.cells #[.int .i64 s.fr, .int .i64 s.to, .slice A4 s.n c4] 45)
            have hrow : ∀ q t' cs, (Value.slice OA2 q2 oc2).ownBlock = some q → Bk (w4.alloc (.cells #[.int .i64 s.fr, .int .i64 s.to, .slice A4 s.n c4] 45)) q t' cs → t' = 45 := fun q t' cs hq hk => own_type (ho4.alloc _) hq hk
            have hD5 : DatOk w5 (L2 ++ [⟨t, k, s.fr, s.to, A4, s.n, c4, s.dat⟩]) := (DatOk.snoc (hD4.below hA4) (f := ⟨t, k, s.fr, s.to, A4, s.n, c4, s.dat⟩) ⟨hf4.below hA4, hcap4⟩).grown hg5 (fun q cs hq hk => by have := hrow q _ _ hq hk; exact absurd this (by decide))
            have hT5 := (hT4.below hA4).grown hg5 (fun q cs hq hk => by have := hrow q _ _ hq hk; exact absurd this (by decide))
            have hb5 := (hbel4.alloc hbel4.size (.cells #[.int .i64 s.fr, .int .i64 s.to, .slice A4 s.n c4] 45)).grown hg5 (by have := hbel4.size; simp; omega) (fun q hq => (hown3.lt q hq).1)
            have HD5 := Lib.hid hD5
            have hown6 : w5.ownsRow w.heap.size 45 3 (.slice (some ⟨g5, 0, none⟩) (q2 + 1) cc5) (q2 + 1) (pkCs (L2 ++ [⟨t, k, s.fr, s.to, A4, s.n, c4, s.dat⟩])) := by rw [pkCs_append]; exact hown5
            clear x1 x2 x3 hD4 hf4 hcap4 hT4 hbel4 hA4 hrow hD5 hown4 hb4 hh4 b1 b2 b3 ho4 hown5 hg5 hat5 hown3 HD3 hh3 hT3 hb3 a1 a2 a3 hcx
            go_wp2_with fail
            go_roundw
            case rel => exact ⟨j + 1, q2 + 1, _, some ⟨g5, 0, none⟩, cc5, by omega, by go_num, rfl, by have := HQ2.out; simp; omega, by omega, Lib.hid (by rw [HKK.out]; simp [Fl.key]), hown6, HD5, hh5, hT5, hb5⟩
            case measure => simp [intOf]; omega
          · have h6 : (t == step) = false := by simpa using h5
            have hKK : eqT step (keysOf ds (l.take k) ++ (ts.take (j + 1)).map fun t => (t, (k : Int), s.fr, s.to, s.dat)) = L2.map Fl.key := by
              rw [HK2.out, List.take_add_one, HTT.out]
              have : ¬ t = step := by simpa using h6
              simp [eqT, this]
            have HKK := Lib.hid hKK
            clear hKK h5
            go_wp2_with fail
            go_roundw
            case rel => exact ⟨j + 1, q2, L2, OA2, oc2, by omega, by go_num, rfl, HQ2.out, by omega, Lib.hid HKK.out.symm, hown3, HD3, hh3, hT3, hb3⟩
            case measure => simp [intOf]; omega
        · obtain rfl : j = tl := by omega
          have HK3 : Hid (L2.map Fl.key = eqT step (keysOf ds (l.take (k + 1)))) := Lib.hid (by
            rw [HNX.out, HKS.out, HK2.out, show ts.take j = ts from List.take_of_length_le (by have := HTL.out; omega)])
          clear HK2
          go_wp2_with fail
          go_roundw
          case rel => exact ⟨k + 1, q2, L2, OA2, oc2, by omega, by go_num, rfl, HQ2.out, by omega, HK3, hown3, HD3, hb3⟩
          case measure => simp [intOf]; omega
    · obtain rfl : k = m := by omega
      go_wp2_with fail
      go_ret
      have := HK.out
      rw [List.take_of_length_le (by have := HM.out; omega)] at this
      have hq := HQL.out
      subst hq
      exact ⟨L, OA, oc, rfl, this, hown, HD.out, hb⟩
end Go.Proofs.Ytlgcdcjfobfoiaa
