/-
  The walk of the law NetSays. Conditions: what is read can be read.
-/
import Derived.Test.YtlgcdcjfobfoiaaNs5
namespace Go.Proofs.Ytlgcdcjfobfoiaa
open Go.RowKit
set_option maxRecDepth 100000

theorem and_mask (z : Int) (m k : Nat) (hm : m + 1 = 2 ^ k) (hk : k ≤ 62) : ∃ N : Nat, Go.bits .and .i64 z (m : Int) = N ∧ N ≤ m := by
  have hm2 : m < 2 ^ 63 := by
    have : 2 ^ k ≤ 2 ^ 62 := Nat.pow_le_pow_right (by omega) hk
    omega
  have e : (BitVec.ofInt 64 z &&& BitVec.ofInt 64 (m : Int)).toNat = (BitVec.ofInt 64 z).toNat % (m + 1) := by
    rw [BitVec.toNat_and, hm]
    have : (BitVec.ofInt 64 (m : Int)).toNat = 2 ^ k - 1 := by
      rw [BitVec.ofInt_natCast, BitVec.toNat_ofNat, Nat.mod_eq_of_lt (by omega)]
      omega
    rw [this, Nat.and_two_pow_sub_one_eq_mod]
  refine ⟨(BitVec.ofInt 64 z).toNat % (m + 1), ?_, ?_⟩
  · show IntKind.i64.wrap ((BitVec.ofInt 64 z &&& BitVec.ofInt 64 (m : Int)).toNat : Int) = _
    rw [e, IntKind.wrap_i64]
    have : (BitVec.ofInt 64 z).toNat % (m + 1) < m + 1 := Nat.mod_lt _ (by omega)
    omega
  · have : (BitVec.ofInt 64 z).toNat % (m + 1) < m + 1 := Nat.mod_lt _ (by omega)
    omega

section
variable {P : Program}
/-- 'make([]T, n)' as one step of a region that draws. -/
theorem step_make_full {ops : Array Oper} {o : Oper} {a : Act} {w : World} {K : Act → World → Prop} {Q : Exit → Act → World → Prop} {E : Prop} (hgd : o.guard = none) (l c : Operand) (t : TypeId) (hop : o.op = Op.makeSlice t l c)
    (base : Nat) (e : TypeId) (i : TypeInfo) (z : Value) (size : Nat) (h1 : P.underlying t = some (.slice e)) (h2 : P.info? e = some i) (h3 : i.zero = some z) (h4 : i.size = size)
    (kl kc : IntKind) (n : Nat) (hl : a.eval l = .int kl n) (hc : a.eval c = .int kc n) (b2 : i.bytes * n ≤ 281474976710656) (b3 : n ≤ maxLen) (b4 : base ≤ w.heap.size)
    (h : ∀ w', w'.ownsRow base e size (.slice (some ⟨w.heap.size, 0, none⟩) n n) n (madeCells z.cells (n * size)).toList → w.grownBy w' none → K (a.put o.dst (.slice (some ⟨w.heap.size, 0, none⟩) n n)) w') :
    if Region.wanted o (yielded ops a.tmps) = true then Oper.wp P o a w K Q else E := by
  have hw : Region.wanted o (yielded ops a.tmps) = true := by simp [Region.wanted, hgd]
  rw [if_pos hw]
  obtain ⟨w', hrun, r1, r2⟩ := run_make_full (P := P) w base t e i z size h1 h2 h3 h4 kl kc n b2 b3 b4
  unfold Oper.wp
  simp [execOp, hop, hl, hc, hrun, Result.andThen]
  exact h w' r1 r2
end

theorem madeU8 (N : Nat) : (madeCells (Value.int .u8 0).cells (N * 1)).toList = (List.replicate N (0 : Int)).map (Value.int .u8) := by
  simp only [madeCells]
  rw [Nat.mul_one]
  apply List.ext_getElem?
  intro j
  by_cases hj : j < N
  · simp [hj, Value.cells, Nat.mod_one]
  · simp [hj]
theorem own_kq {base : Nat} {w w' : World} {b e : TypeId} {size n : Nat} {v : Value} {xs : List Value} (h : w.ownsRow b e size v n xs) (hk : Kq base w w') (h1 : e ≠ 110) (h2 : e ≠ 113) : w'.ownsRow b e size v n xs := by
  refine ⟨h.1, ?_⟩
  rcases h.2 with h3 | ⟨g, cap, cur, hv, hb, hh, r⟩
  · exact .inl h3
  · exact .inr ⟨g, cap, cur, hv, hb, hk.block g e cur hh h1 h2, r⟩

theorem T.info57 : (Try.prog.info? 57).map (fun i => (i.zero, i.size, i.bytes)) = some (some (.agg #[.int .i64 0, .int .i64 0, .int .i64 0, .slice none 0 0]), 4, 48) := by kernel_rfl

/-- What holds at the head of a round. -/
structure SaysSt (wr : World) (w : World) (g : Nat) (ends s : Int) (ds : List Dd) (l : List Sn) (fs : List Fl) (SA : Option Addr) (sc : Nat) : Prop where
  net : NetSt wr w.heap.size g ends s l.length ds fs
  inv : NInv ds l fs s
  own : wr.ownsRow w.heap.size 57 4 (.slice SA l.length sc) l.length (snCs l)
  dat : ∀ x ∈ l, Tr wr 5 1 x.A x.n (x.dat.map (Value.int .u8)) ∧ x.n ≤ 5000 ∧ 0 ≤ x.st ∧ x.st ≤ s
  u8 : ∀ f ∈ fs, u8s f.dat
  bel : Below w.heap.size w wr

theorem SaysSt.below {wr w w' : World} {g : Nat} {ends s : Int} {ds : List Dd} {l : List Sn} {fs : List Fl} {SA : Option Addr} {sc : Nat} (h : SaysSt wr w g ends s ds l fs SA sc) (hb : Below wr.heap.size wr w') : SaysSt w' w g ends s ds l fs SA sc :=
  ⟨h.net.below hb, h.inv, own_keep h.own hb, fun x hx => ⟨(h.dat x hx).1.below hb, (h.dat x hx).2⟩, h.u8, h.bel.trans (hb.mono h.bel.size)⟩
theorem SaysSt.few {wr w : World} {g : Nat} {ends s : Int} {ds : List Dd} {l : List Sn} {fs : List Fl} {SA : Option Addr} {sc : Nat} (h : SaysSt wr w g ends s ds l fs SA sc) (hl : l.length ≤ 40) : fs.length ≤ 40040 := by
  have h1 := h.inv.count
  have h2 := dueC_le ds l s
  have h3 := h.net.few
  have h4 : l.length * (ds.length + 1) ≤ 40 * 1001 := Nat.mul_le_mul hl (by omega)
  omega

set_option maxHeartbeats 800000 in
theorem netSays_walk (ends : Int) (A XA : Option Addr) (n c xn xc : Nat) (ds : List Dd) (xs : List Int) (w : World) (hr : Rd w w.heap.size 3 A n (ddCs ds)) (hn : n = ds.length) (hnc : n ≤ c ∧ c ≤ maxLen) (hx : Rd w w.heap.size 1 XA xn (xs.map (Value.int .i64))) (hxn : xn = xs.length) (hxc : xn ≤ xc ∧ xc ≤ 9223372036854775807) (hwf : ∀ z ∈ xs, (Lit.int .i64 z).wf = true) :
    Calls Try.prog 6 #[.int .i64 ends, .slice A n c, .slice XA xn xc] w fun e w' => e = .returned (.bool true) ∧ Below w.heap.size w w' := by
  have hnew := netNew_any ends A n c w.heap.size ds w hr hn hnc.1 hnc.2 (Nat.le_refl _)
  have HNEW := Lib.hid hnew
  have HR := Lib.hid hr
  have HN := Lib.hid hn
  have HX := Lib.hid hx
  have HXN := Lib.hid hxn
  have HWF := Lib.hid hwf
  obtain ⟨hc1, hc2⟩ := hnc
  obtain ⟨hx1, hx2⟩ := hxc
  clear hnew hr hn hx hxn hwf
  go_enter Try.func6, Try.ntmps6
  go_wp2_with fail
  refine HNEW.out.mono ?_
  rintro e w1 ⟨hb1, ⟨h0, rfl⟩ | ⟨h0, g, rfl, hN⟩⟩
  · have hdf := deedFault_any ends A n c w.heap.size ds w1 (HR.out.below hb1) HN.out ⟨hc2, hc1⟩ hb1.size
    have HDF := Lib.hid hdf
    have hne : (newErr ends ds != 0) = true := by simpa using h0
    clear hdf h0 HNEW
    go_wp2_with fail
    refine HDF.out.mono ?_
    rintro e w2 ⟨rfl, hb2⟩
    have hb2' := hb1.trans (hb2.mono hb1.size)
    go_wp2_with fail
    refine (arrives4_any w2).mono ?_
    rintro e w3 ⟨rfl, hb3⟩
    have hb3' := hb2'.trans (hb3.mono hb2'.size)
    go_wp2_with fail
    refine (arrives4_any w3).mono ?_
    rintro e w4 ⟨rfl, hb4⟩
    go_wp2_with fail
    go_ret
    exact ⟨rfl, hb3'.trans (hb4.mono hb3'.size)⟩
  have hdf := deedFault_any ends A n c w.heap.size ds w1 (HR.out.below hb1) HN.out ⟨hc2, hc1⟩ hb1.size
  rw [h0] at hdf
  have HDF := Lib.hid hdf
  clear hdf HNEW
  go_wp2_with fail
  refine HDF.out.mono ?_
  rintro e w2 ⟨rfl, hb2⟩
  have hb2' := hb1.trans (hb2.mono hb1.size)
  have hN2 := hN.below hb2
  go_wp2_with fail
  refine (arrives4_any w2).mono ?_
  rintro e w3 ⟨rfl, hb3⟩
  have hb3' := hb2'.trans (hb3.mono hb2'.size)
  have hN3 := hN2.below hb3
  have hnd : n ≤ 1000 := by have := hN3.few; have := HN.out; omega
  clear hb1 hb2 hb2' hN hN2 hb3 HDF
  obtain ⟨kk, hkk⟩ : ∃ kk : Nat, kk = min xn 40 := ⟨_, rfl⟩
  have hk40 : kk ≤ 40 ∧ kk ≤ xn := by omega
  obtain ⟨hk40, hkx⟩ := hk40
  have hm1 : min (xn : Int) 40 = kk := by omega
  have hm2 : max (kk : Int) 0 = kk := by omega
  clear hkk
  go_wp2_with fail
  clear hm1 hm2
  obtain ⟨i5, hi5, hu0, hu1, hu2⟩ := info_parts T.info5
  obtain ⟨i57, hi57, hv0, hv1, hv2⟩ := info_parts T.info57
  go_loopw [10, 11, 53] (fun sl st v wr => ∃ (k : Nat) (s : Int) (l : List Sn) (fs : List Fl) (SA : Option Addr) (sc m : Nat), k ≤ kk ∧ v = .int .i64 k ∧ st = .int .i64 s ∧ sl = .slice SA m sc ∧ m = l.length ∧ 0 ≤ s ∧ s + m ≤ k ∧ Hid (SaysSt wr w g ends s ds l fs SA sc)) (fun _ _ v _ => kk - (intOf v).toNat)
  case atStart => exact ⟨0, 0, [], [], none, 0, 0, Nat.zero_le _, rfl, rfl, rfl, rfl, by omega, by omega, Lib.hid ⟨hN3, NInv.zero ds, World.ownsRow_nil _ _ _ _, (fun x hx => by cases hx), (fun f hf => by cases hf), hb3'⟩⟩
  case round =>
    obtain ⟨k, s, l, fs, SA, sc, m, hk, rfl, rfl, rfl, hml, hs0, hsk, HS⟩ := hrel
    have HML := Lib.hid hml
    clear hN3 hb3' hml
    by_cases hlt : k < kk
    · obtain ⟨z, hz⟩ : ∃ z, xs[k]? = some z := ⟨_, List.getElem?_eq_getElem (by have := HXN.out; omega)⟩
      obtain ⟨xb, xo, rfl, _, hcz⟩ := (HX.out.below HS.out.bel).at1 (show k < xn by omega) (u := .int .i64 z) (by rw [List.getElem?_map, hz]; rfl)
      have hzw := HWF.out z (List.mem_of_getElem? hz)
      clear hz
      by_cases hz0 : z < 0
      · have hst := netStep_any w.heap.size g ends s l.length ds fs wr HS.out.net hs0 (by omega) (by have := HS.out.few (by have := HML.out; omega); omega)
        have HST := Lib.hid hst
        clear hst
        go_wp2_with fail
        refine HST.out.mono ?_
        rintro e w4 ⟨L, rest, PA, pc, hf, hle, hgt, rfl, hown, hN4, hK4, hdat⟩
        have hS0 := HS.out
        rw [hf] at hS0
        obtain ⟨hi1, hi2⟩ := hS0.inv.step hle hgt
        have hS4 : SaysSt w4 w g ends (s + 1) ds l rest SA sc := ⟨hN4, hi1, own_kq hS0.own hK4 (by decide) (by decide), fun x hx => ⟨(hS0.dat x hx).1.kq hK4 (by decide) (by decide), (hS0.dat x hx).2.1, (hS0.dat x hx).2.2.1, by have := (hS0.dat x hx).2.2.2; omega⟩, fun f hf => hS0.u8 f (List.mem_append_right _ hf), hS0.bel.trans (hK4.below hS0.bel.size)⟩
        have hLt : Tr w4 45 3 PA L.length (pkCs L) := Tr.of_own hown
        have hLd : DatOk w4 L := hdat
        have hLu : ∀ f ∈ L, u8s f.dat := fun f hf => hS0.u8 f (List.mem_append_left _ hf)
        have hLl : L.length ≤ 40040 := by have := hS0.few (by have := HML.out; omega); simp at this; omega
        have hsr : Rd w4 w4.heap.size 4 SA m (snCs l) := by have := Rd.of_own hS4.own; rw [← HML.out] at this; exact this
        have hda : ∀ x ∈ l, Rd w4 w4.heap.size 1 x.A x.n (x.dat.map (Value.int .u8)) ∧ x.n ≤ 5000 := fun x hx => ⟨(hS4.dat x hx).1.rd, (hS4.dat x hx).2.1⟩
        have har := arrivals_any A SA n c m sc w4.heap.size (s + 1) ds l w4 ((HR.out.below hS4.bel).more hS4.bel.size) HN.out hnd hS4.net.good hsr HML.out (by omega) (fun x hx => ⟨(hS4.dat x hx).2.2.1, by have := (hS4.dat x hx).2.2.2; omega⟩) hda (Nat.le_refl _)
        have HAR := Lib.hid har
        have HS4 := Lib.hid hS4
        have HLT := Lib.hid hLt
        have HLD := Lib.hid hLd
        have HLU := Lib.hid hLu
        have HI2 := Lib.hid hi2
        obtain ⟨q, hq⟩ : ∃ q, q = L.length := ⟨_, rfl⟩
        have HQ := Lib.hid hq
        rw [← hq] at hLl ⊢
        clear har hS4 hLt hLd hLu hS0 hi1 hi2 hf hle hgt hown hN4 hK4 hdat HST HS hcz hsr hda hq
        go_wp2_with fail
        refine HAR.out.mono ?_
        rintro e w5 ⟨W, WA, wc, rfl, hWk, hWown, hWdat, hWb⟩
        have hWl : W.length = q := by
          have h1 := congrArg List.length hWk
          have h2 := congrArg List.length HI2.out
          simp only [List.length_map] at h1 h2
          have := HQ.out
          omega
        rw [hWl]
        have hS5 := HS4.out.below hWb
        rw [hWl] at hWown
        have heq := eqPk_any PA WA q pc wc L W w5 (by rw [HQ.out]; exact HLT.out.below hWb) (Tr.of_own hWown) HQ.out hWl.symm (by omega) (by rw [HI2.out, hWk]) (HLD.out.below hWb) hWdat HLU.out
        have HEQ := Lib.hid heq
        have HS5 := Lib.hid hS5
        clear heq hS5 hWk hWown hWdat hWb hWl HS4 HAR
        go_wp2_with fail
        refine HEQ.out.mono ?_
        rintro e w6 ⟨rfl, hb6⟩
        have hS := HS5.out.below hb6
        clear hb6 HS5 HEQ
        have HTL := Lib.hid hS
        have hlen := hS.few (by have := HML.out; omega)
        have hle := netLeft_any w.heap.size g ends (s + 1) _ ds rest _ hS.net
        have hdu := due_any A SA n c m sc _ (s + 1) ds l _ ((HR.out.below hS.bel).more hS.bel.size) HN.out hnd hS.net.good (by have := Rd.of_own hS.own; rw [← HML.out] at this; exact this) HML.out (by omega) (fun x hx => ⟨(hS.dat x hx).2.2.1, by have := (hS.dat x hx).2.2.2; omega⟩) (Nat.le_refl _)
        rw [hS.inv.count] at hdu
        have HLE := Lib.hid hle
        have HDU := Lib.hid hdu
        clear hle hdu hS
        go_wp2_with fail
        refine HLE.out.mono ?_
        rintro e w8 ⟨rfl, rfl⟩
        go_wp2_with fail
        refine HDU.out.mono ?_
        rintro e w9 ⟨rfl, hb9⟩
        have hS9 := HTL.out.below hb9
        have hse := netSent_any w.heap.size g ends (s + 1) _ ds rest _ hS9.net
        rw [← HML.out] at hse
        have HSE := Lib.hid hse
        have HS9 := Lib.hid hS9
        clear hse hS9 hb9 HTL HLE HDU
        go_wp2_with fail
        refine HSE.out.mono ?_
        rintro e w10 ⟨rfl, rfl⟩
        go_wp2_with fail
        go_roundw
        case rel => exact ⟨k + 1, (s + 1), l, rest, SA, sc, m, by omega, by go_num, rfl, rfl, HML.out, by omega, by omega, HS9⟩
        case measure => simp [intOf]; omega
      · have hz1 : 0 ≤ z := by omega
        have hz2 : z ≤ 9223372036854775807 := by have := bounds_i64 hzw; omega
        clear hzw
        obtain ⟨F, hF, hF1⟩ := and_mask z 15 4 rfl (by omega)
        obtain ⟨T, hT, hT1⟩ := and_mask (z / 16) 15 4 rfl (by omega)
        obtain ⟨D, hD, hD1⟩ := and_mask (z / 256) 4095 12 rfl (by omega)
        replace hF : Go.bits .and .i64 z 15 = (F : Int) := hF
        replace hT : Go.bits .and .i64 (z / 16) 15 = (T : Int) := hT
        replace hD : Go.bits .and .i64 (z / 256) 4095 = (D : Int) := hD
        have hFw : IntKind.i64.wrap ((F : Int) - 1) = (F : Int) - 1 := by rw [IntKind.wrap_i64]; omega
        have hTw : IntKind.i64.wrap ((T : Int) - 1) = (T : Int) - 1 := by rw [IntKind.wrap_i64]; omega
        go_wp2_with fail
        obtain ⟨w5, hmk, hown5, hg5⟩ := run_make_full (P := Try.prog) wr.drew w.heap.size 30 5 i5 (.int .u8 0) 1 Try.underlying30 hi5 hu0 hu1 .i64 .i64 D (by rw [hu2]; omega) (by unfold maxLen; omega) HS.out.bel.size
        have hgu : (wr.drew).heap.size = wr.heap.size := rfl
        rw [hgu] at hmk hown5
        go_region
        have hbel5 : Below wr.heap.size wr w5 := (Below.refl wr.heap.size wr).drew.grown hg5 (Nat.le_refl _) (fun q hq => by cases hq)
        have hS5 := HS.out.below hbel5
        rw [madeU8] at hown5
        have hd5 : Tr w5 5 1 (some ⟨wr.heap.size, 0, none⟩) D ((List.replicate D (0 : Int)).map (Value.int .u8)) := Tr.of_own hown5
        have HS5 := Lib.hid hS5
        have HD5 := Lib.hid hd5
        have hm40 : m ≤ 40 := by omega
        clear hF hT hD hFw hTw hS5 hd5 hown5 hg5 hmk hgu hbel5 HS hcz hz0 hz1 hz2
        generalize wr.heap.size = DB at *
        generalize (F : Int) - 1 = fr at *
        generalize (T : Int) - 1 = to at *
        have hcase : (sendErr ends m fr to D = 1 ∧ (fr < 0 ∨ (0 ≤ fr ∧ ends ≤ fr) ∨ (0 ≤ fr ∧ fr < ends ∧ to < 0) ∨ (0 ≤ fr ∧ fr < ends ∧ 0 ≤ to ∧ ends ≤ to) ∨ (0 ≤ fr ∧ fr < ends ∧ 0 ≤ to ∧ to < ends ∧ (fr == to) = true))) ∨
            (sendErr ends m fr to D = 2 ∧ 0 ≤ fr ∧ fr < ends ∧ 0 ≤ to ∧ to < ends ∧ (fr == to) = false ∧ 4000 < D) ∨
            (sendErr ends m fr to D = 0 ∧ 0 ≤ fr ∧ fr < ends ∧ 0 ≤ to ∧ to < ends ∧ (fr == to) = false ∧ D ≤ 4000) := by
          unfold sendErr
          simp only [beq_iff_eq, beq_eq_false_iff_ne]
          by_cases h1 : fr < 0 ∨ ends ≤ fr ∨ to < 0 ∨ ends ≤ to ∨ fr = to
          · rw [if_pos h1]; left; exact ⟨rfl, by omega⟩
          · rw [if_neg h1]
            by_cases h2 : 4000 < D
            · rw [if_pos h2]; right; left; exact ⟨rfl, by omega⟩
            · rw [if_neg h2, if_neg (by omega)]; right; right; exact ⟨rfl, by omega⟩
        rcases hcase with ⟨he, hcase⟩ | ⟨he, k1, k2, k3, k4, k5, k6⟩ | ⟨he, k1, k2, k3, k4, k5, k6⟩
        · have hsb := netSend_bad w.heap.size g ends s l.length fr to (some ⟨DB, 0, none⟩) D D ds fs w5 HS5.out.net ⟨Nat.le_refl _, by unfold maxLen; omega⟩ (by rw [← HML.out, he]; decide)
          rw [← HML.out, he] at hsb
          have HSB := Lib.hid hsb
          clear hsb he
          rcases hcase with k1 | ⟨k1, k2⟩ | ⟨k1, k2, k3⟩ | ⟨k1, k2, k3, k4⟩ | ⟨k1, k2, k3, k4, k5⟩
          all_goals
            go_wp2_with fail
            refine HSB.out.mono ?_
            rintro e w6 ⟨rfl, rfl⟩
            have hS := HS5.out
            have HTL := Lib.hid hS
            have hlen := hS.few (by have := HML.out; omega)
            have hle := netLeft_any w.heap.size g ends s _ ds fs _ hS.net
            have hdu := due_any A SA n c m sc _ s ds l _ ((HR.out.below hS.bel).more hS.bel.size) HN.out hnd hS.net.good (by have := Rd.of_own hS.own; rw [← HML.out] at this; exact this) HML.out (by omega) (fun x hx => ⟨(hS.dat x hx).2.2.1, by have := (hS.dat x hx).2.2.2; omega⟩) (Nat.le_refl _)
            rw [hS.inv.count] at hdu
            have HLE := Lib.hid hle
            have HDU := Lib.hid hdu
            clear hle hdu hS
            go_wp2_with fail
            refine HLE.out.mono ?_
            rintro e w8 ⟨rfl, rfl⟩
            go_wp2_with fail
            refine HDU.out.mono ?_
            rintro e w9 ⟨rfl, hb9⟩
            have hS9 := HTL.out.below hb9
            have hse := netSent_any w.heap.size g ends s _ ds fs _ hS9.net
            rw [← HML.out] at hse
            have HSE := Lib.hid hse
            have HS9 := Lib.hid hS9
            clear hse hS9 hb9 HTL HLE HDU
            go_wp2_with fail
            refine HSE.out.mono ?_
            rintro e w10 ⟨rfl, rfl⟩
            go_wp2_with fail
            go_roundw
            case rel => exact ⟨k + 1, s, l, fs, SA, sc, m, by omega, by go_num, rfl, rfl, HML.out, by omega, by omega, HS9⟩
            case measure => simp [intOf]; omega
        · have hsb := netSend_bad w.heap.size g ends s l.length fr to (some ⟨DB, 0, none⟩) D D ds fs w5 HS5.out.net ⟨Nat.le_refl _, by unfold maxLen; omega⟩ (by rw [← HML.out, he]; decide)
          rw [← HML.out, he] at hsb
          have HSB := Lib.hid hsb
          clear hsb he
          go_wp2_with fail
          refine HSB.out.mono ?_
          rintro e w6 ⟨rfl, rfl⟩
          have hS := HS5.out
          have HTL := Lib.hid hS
          have hlen := hS.few (by have := HML.out; omega)
          have hle := netLeft_any w.heap.size g ends s _ ds fs _ hS.net
          have hdu := due_any A SA n c m sc _ s ds l _ ((HR.out.below hS.bel).more hS.bel.size) HN.out hnd hS.net.good (by have := Rd.of_own hS.own; rw [← HML.out] at this; exact this) HML.out (by omega) (fun x hx => ⟨(hS.dat x hx).2.2.1, by have := (hS.dat x hx).2.2.2; omega⟩) (Nat.le_refl _)
          rw [hS.inv.count] at hdu
          have HLE := Lib.hid hle
          have HDU := Lib.hid hdu
          clear hle hdu hS
          go_wp2_with fail
          refine HLE.out.mono ?_
          rintro e w8 ⟨rfl, rfl⟩
          go_wp2_with fail
          refine HDU.out.mono ?_
          rintro e w9 ⟨rfl, hb9⟩
          have hS9 := HTL.out.below hb9
          have hse := netSent_any w.heap.size g ends s _ ds fs _ hS9.net
          rw [← HML.out] at hse
          have HSE := Lib.hid hse
          have HS9 := Lib.hid hS9
          clear hse hS9 hb9 HTL HLE HDU
          go_wp2_with fail
          refine HSE.out.mono ?_
          rintro e w10 ⟨rfl, rfl⟩
          go_wp2_with fail
          go_roundw
          case rel => exact ⟨k + 1, s, l, fs, SA, sc, m, by omega, by go_num, rfl, rfl, HML.out, by omega, by omega, HS9⟩
          case measure => simp [intOf]; omega
        · have hsg := netSend_any w.heap.size g ends s l.length fr to (some ⟨DB, 0, none⟩) D D (List.replicate D 0) ds fs w5 HS5.out.net (Nat.le_refl _) (by unfold maxLen; omega) HD5.out (by rw [← HML.out, he]) (by omega) (by have := HML.out; omega) hs0 (by omega) (by have := HS5.out.few (by have := HML.out; omega); omega) HS5.out.bel.size
          have HSG := Lib.hid hsg
          clear hsg he
          go_wp2_with fail
          refine HSG.out.mono ?_
          rintro e w6 ⟨rfl, fs6, fl6, hA6, hk6, hN6, hK6⟩
          have hx6 : fl6.map Fl.key = keyS ds l.length ⟨s, fr, to, some ⟨DB, 0, none⟩, D, D, List.replicate D 0⟩ := hk6
          have hi6 := HS5.out.inv.send hA6 hx6 rfl HS5.out.net.good
          have ho6 := own_kq HS5.out.own hK6 (by decide) (by decide)
          have hd6 : ∀ x ∈ l ++ [(⟨s, fr, to, some ⟨DB, 0, none⟩, D, D, List.replicate D 0⟩ : Sn)], Tr w6 5 1 x.A x.n (x.dat.map (Value.int .u8)) ∧ x.n ≤ 5000 ∧ 0 ≤ x.st ∧ x.st ≤ s := fun x hx => by
            rcases List.mem_append.1 hx with hx | hx
            · exact ⟨(HS5.out.dat x hx).1.kq hK6 (by decide) (by decide), (HS5.out.dat x hx).2⟩
            · obtain rfl := List.mem_singleton.1 hx
              exact ⟨HD5.out.kq hK6 (by decide) (by decide), by show D ≤ 5000; omega, hs0, Int.le_refl _⟩
          have hu6 : ∀ f ∈ fs6, u8s f.dat := fun f hf => by
            rcases List.mem_append.1 (hA6.2.2.mem_iff.1 hf) with hf | hf
            · exact HS5.out.u8 f hf
            · have h1 : f.key ∈ keyS ds l.length ⟨s, fr, to, some ⟨DB, 0, none⟩, D, D, List.replicate D 0⟩ := by rw [← hx6]; exact List.mem_map_of_mem hf
              obtain ⟨t, _, ht⟩ := List.mem_map.1 h1
              simp only [Fl.key, Prod.mk.injEq] at ht
              rw [← ht.2.2.2.2]
              intro y hy
              have := (List.mem_replicate.1 hy).2
              omega
          have hb6 : Below w.heap.size w w6 := HS5.out.bel.trans (hK6.below HS5.out.bel.size)
          have hsz6 := hb6.size
          have HI6 := Lib.hid hi6
          have HDD6 := Lib.hid hd6
          have HU6 := Lib.hid hu6
          rw [← HML.out] at ho6
          clear hx6 hi6 hd6 hu6 hA6 hk6 hK6 HS5 HD5 HSG
          go_wp2_with
            (at_builtin
             go_must (refine wpList_append_one _ rfl (.tmp 117) (.tmp 124) _ rfl w.heap.size 57 i57 (.agg #[.int .i64 0, .int .i64 0, .int .i64 0, .slice none 0 0]) 4 48 Try.underlying51 hi57 hv0 hv1 hv2 rfl (by decide) (.slice SA m sc) m (snCs l) rfl (ho6.alloc _) w6.heap.size 1 57 #[.int .i64 s, .int .i64 fr, .int .i64 to, .slice (some ⟨DB, 0, none⟩) D D] rfl (Bk.new _ _ _) rfl ?d1 (m + 1) rfl ?d2 ?d3 ?d4 ?_)
             case d1 => simp [Value.oneCell']
             case d2 => unfold maxLen; omega
             case d3 => omega
             case d4 => simp; omega
             intro g7 cc7 w7 hown7 hg7 hat7
             have hA7 := (Below.refl w6.heap.size w6).alloc (Nat.le_refl _) (.cells #[.int .i64 s, .int .i64 fr, .int .i64 to, .slice (some ⟨DB, 0, none⟩) D D] 57)
             have hrow : ∀ q t' cs, (Value.slice SA m sc).ownBlock = some q → Bk (w6.alloc (.cells #[.int .i64 s, .int .i64 fr, .int .i64 to, .slice (some ⟨DB, 0, none⟩) D D] 57)) q t' cs → t' = 57 := fun q t' cs hq hk => own_type (ho6.alloc _) hq hk
             have hN7 := (hN6.below hA7).grown hg7 (fun q t' cs hq hk => by have := hrow q t' cs hq hk; subst this; decide)
             have hb7 := (hb6.alloc hsz6 (.cells #[.int .i64 s, .int .i64 fr, .int .i64 to, .slice (some ⟨DB, 0, none⟩) D D] 57)).grown hg7 (by simp; omega) (fun q hq => (ho6.lt q hq).1)
             have hS7 : SaysSt w7 w g ends s ds (l ++ [⟨s, fr, to, some ⟨DB, 0, none⟩, D, D, List.replicate D 0⟩]) fs6 (some ⟨g7, 0, none⟩) cc7 := ⟨by rw [List.length_append]; exact hN7, HI6.out, by rw [List.length_append, snCs_append, ← HML.out]; exact hown7, fun x hx => ⟨((HDD6.out x hx).1.below hA7).grown hg7 (fun q cs hq hk => by have := hrow q _ cs hq hk; exact absurd this (by decide)), (HDD6.out x hx).2⟩, HU6.out, hb7⟩
             have HS7 := Lib.hid hS7
             have HML2 : Hid (m + 1 = (l ++ [(⟨s, fr, to, some ⟨DB, 0, none⟩, D, D, List.replicate D 0⟩ : Sn)]).length) := Lib.hid (by rw [List.length_append, ← HML.out]; rfl)
             clear hA7 hrow hN7 hb7 hS7 hown7 hg7 hat7 ho6 hN6 hb6)
          clear HML
          have HML := HML2
          have hS := HS7.out
          have HTL := Lib.hid hS
          have hlen := hS.few (by have := HML.out; omega)
          have hle := netLeft_any w.heap.size g ends s _ ds fs6 _ hS.net
          have hdu := due_any A (some ⟨g7, 0, none⟩) n c (m + 1) cc7 _ s ds (l ++ [⟨s, fr, to, some ⟨DB, 0, none⟩, D, D, List.replicate D 0⟩]) _ ((HR.out.below hS.bel).more hS.bel.size) HN.out hnd hS.net.good (by have := Rd.of_own hS.own; rw [← HML.out] at this; exact this) HML.out (by omega) (fun x hx => ⟨(hS.dat x hx).2.2.1, by have := (hS.dat x hx).2.2.2; omega⟩) (Nat.le_refl _)
          rw [hS.inv.count] at hdu
          have HLE := Lib.hid hle
          have HDU := Lib.hid hdu
          clear hle hdu hS
          go_wp2_with fail
          refine HLE.out.mono ?_
          rintro e w8 ⟨rfl, rfl⟩
          go_wp2_with fail
          refine HDU.out.mono ?_
          rintro e w9 ⟨rfl, hb9⟩
          have hS9 := HTL.out.below hb9
          have hse := netSent_any w.heap.size g ends s _ ds fs6 _ hS9.net
          rw [← HML.out] at hse
          have HSE := Lib.hid hse
          have HS9 := Lib.hid hS9
          clear hse hS9 hb9 HTL HLE HDU
          go_wp2_with fail
          refine HSE.out.mono ?_
          rintro e w10 ⟨rfl, rfl⟩
          go_wp2_with fail
          go_roundw
          case rel => exact ⟨k + 1, s, (l ++ [⟨s, fr, to, some ⟨DB, 0, none⟩, D, D, List.replicate D 0⟩]), fs6, (some ⟨g7, 0, none⟩), cc7, (m + 1), by omega, by go_num, rfl, rfl, HML.out, by omega, by omega, HS9⟩
          case measure => simp [intOf]; omega
    · obtain rfl : k = kk := by omega
      go_wp2_with fail
      go_ret
      exact ⟨rfl, HS.out.bel⟩
end Go.Proofs.Ytlgcdcjfobfoiaa
