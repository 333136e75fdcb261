/-
  The walk of the law NetAll. Conditions: the deeds can be read.
-/
import Derived.Test.YtlgcdcjfobfoiaaNt8
namespace Go.Proofs.Ytlgcdcjfobfoiaa
open Go.RowKit
set_option maxRecDepth 100000

theorem and31 (z : Int) : ∃ N : Nat, Go.bits .and .i64 z 31 = N ∧ N ≤ 31 := by
  have e : (BitVec.ofInt 64 z &&& BitVec.ofInt 64 31).toNat = (BitVec.ofInt 64 z).toNat % 32 := by
    rw [BitVec.toNat_and, show (BitVec.ofInt 64 31).toNat = 2 ^ 5 - 1 from rfl, Nat.and_two_pow_sub_one_eq_mod]
  refine ⟨(BitVec.ofInt 64 z).toNat % 32, ?_, by omega⟩
  show IntKind.i64.wrap ((BitVec.ofInt 64 z &&& BitVec.ofInt 64 31).toNat : Int) = _
  rw [e, IntKind.wrap_i64]
  omega
theorem grownBy_set (w : World) (g i : Nat) (u : Value) : w.grownBy (w.setCell ⟨g, i, none⟩ u) (some g) :=
  ⟨rfl, rfl, rfl, by simp [World.setCell], fun k _ hk => Below.heap_setCell _ _ _ _ (fun e => hk (by rw [show k = g from e]))⟩
theorem own_full {w : World} {base n g : Nat} {e : TypeId} {xs : List Value} (h : w.ownsRow base e 1 (.slice (some ⟨g, 0, none⟩) n n) n xs) : base ≤ g ∧ Bk w g e xs.toArray := by
  rcases h.2 with ⟨hv, _⟩ | ⟨g', cap, cur, hv, hb, hh, _, _, hs, ht⟩
  · cases hv
  · simp only [Value.slice.injEq, Option.some.injEq, Addr.mk.injEq, and_true, true_and] at hv
    obtain ⟨rfl, rfl⟩ := hv
    refine ⟨hb, ?_⟩
    have : cur = xs.toArray := by
      rw [← ht, List.take_of_length_le (by simp [hs])]
    rw [← this]; exact hh
theorem made0 (N : Nat) : ((madeCells (Value.int .i64 0).cells (N * 1)).toList).toArray = cntA N [] := by
  apply Array.ext'
  simp only [madeCells, cntA]
  rw [Nat.mul_one]
  apply List.ext_getElem?
  intro j
  by_cases hj : j < N
  · simp [hj, cnt, Value.cells, Nat.mod_one]
  · simp [hj]
theorem Bk.same {w : World} {g : Nat} {t t' : TypeId} {cs cs' : Array Value} (h : Bk w g t cs) (h' : Bk w g t' cs') : t = t' := by
  by_cases e : t = t'
  · exact e
  · exact absurd rfl (Bk.ne_ h h' e)
theorem Rd.pk {w : World} {B n : Nat} {A : Option Addr} {l : List Fl} (h : Rd w B 3 A n (pkCs l)) (k : Nat) (f : Fl) (hk : l[k]? = some f) (hn : k < n) :
    ∃ b o, A = some ⟨b, o, none⟩ ∧ b < B ∧ w.cell? ⟨b, o + k * 3, none⟩ = some (.int .i64 f.fr) ∧ w.cell? ⟨b, o + k * 3 + 1, none⟩ = some (.int .i64 f.to) ∧ w.cell? ⟨b, o + k * 3 + 2, none⟩ = some (.slice f.A f.n f.c) := by
  obtain ⟨b, o, hA, hb, hc⟩ := h.2 (by omega)
  refine ⟨b, o, hA, hb, ?_, ?_, ?_⟩
  · exact hc (k * 3) _ (pkCs_get l k f hk 0 (by omega))
  · rw [Nat.add_assoc]; exact hc (k * 3 + 1) _ (pkCs_get l k f hk 1 (by omega))
  · rw [Nat.add_assoc]; exact hc (k * 3 + 2) _ (pkCs_get l k f hk 2 (by omega))
theorem Tr.one5 (w : World) (u : Value) : Tr (w.alloc (.cells #[u] 5)) 5 1 (some ⟨w.heap.size, 0, none⟩) 1 [u] :=
  ⟨rfl, fun _ => ⟨w.heap.size, 0, #[u], rfl, Bk.new _ _ _, fun j v hv => by rw [Nat.zero_add, ← Array.getElem?_toList]; exact hv⟩⟩

set_option maxHeartbeats 4000000 in
theorem netAll_walk (A : Option Addr) (n c : Nat) (z : Int) (ds : List Dd) (w : World) (hr : Rd w w.heap.size 3 A n (ddCs ds)) (hn : n = ds.length) (hnc : n ≤ c) (hc : c ≤ maxLen) :
    Calls Try.prog 5 #[.slice A n c, .int .i64 z] w fun e w' => e = .returned (.bool true) ∧ Below w.heap.size w w' := by
  have hnew := netNew_any 3 A n c w.heap.size ds w hr hn hnc hc (Nat.le_refl _)
  have HNEW := Lib.hid hnew
  obtain ⟨N, hN, hN31⟩ := and31 z
  have HNN := Lib.hid hN
  have HR := Lib.hid hr
  have HN := Lib.hid hn
  clear hnew hN hr hn
  go_enter Try.func5, Try.ntmps5
  go_wp2_with fail
  refine HNEW.out.mono ?_
  rintro e w1 ⟨hb1, ⟨h0, rfl⟩ | ⟨_, g, rfl, hN⟩⟩
  · have hne : (newErr 3 ds != 0) = true := by simpa using h0
    clear h0 HNEW
    go_wp2_with fail
    refine (arrives_any w1).mono ?_
    rintro e w2 ⟨rfl, hb2⟩
    go_wp2_with fail
    refine (arrives_any w2).mono ?_
    rintro e w3 ⟨rfl, hb3⟩
    go_wp2_with fail
    go_ret
    exact ⟨rfl, hb1.trans ((hb2.mono hb1.size).trans (hb3.mono (Nat.le_trans hb1.size hb2.size)))⟩
  go_wp2_with fail
  refine (arrives_any w1).mono ?_
  rintro e w2 ⟨rfl, hb2⟩
  have hN2 := hN.below hb2
  have hbb2 : Below w.heap.size w w2 := hb1.trans (hb2.mono hb1.size)
  clear hN hb1 hb2 HNEW
  go_wp2_with fail
  rw [HNN.out]
  clear HNN
  have hds := hN2.few
  go_loopw [35] (fun i wr => ∃ (k : Nat) (fs : List Fl), k ≤ N ∧ i = .int .i64 k ∧ NetSt wr w.heap.size g 3 0 k ds fs ∧ Hid (AllFl ds k fs) ∧ Below w.heap.size w wr) (fun i _ => N - (intOf i).toNat)
  case atStart => exact ⟨0, [], Nat.zero_le _, rfl, hN2, Lib.hid (AllFl.zero ds), hbb2⟩
  case round =>
    obtain ⟨k, fs, hk, rfl, hNr, HA, hb⟩ := hrel
    have hsz := hb.size
    have hfl : fs.length ≤ 31031 := by
      have h1 := HA.out.length
      have h2 : k * (ds.length + 1) ≤ 31 * 1001 := Nat.mul_le_mul (by omega) (by omega)
      omega
    by_cases hlt : k < N
    · have hm3 : 0 ≤ (k : Int) % 3 ∧ (k : Int) % 3 < 3 ∧ 0 ≤ ((k : Int) + 1) % 3 ∧ ((k : Int) + 1) % 3 < 3 ∧ ¬ (k : Int) % 3 = ((k : Int) + 1) % 3 := by omega
      have hw8 : IntKind.u8.wrap (k : Int) = k := by rw [IntKind.wrap_u8]; omega
      have hse : sendErr 3 k ((k : Int) % 3) (((k : Int) + 1) % 3) 1 = 0 := by
        unfold sendErr
        rw [if_neg (by omega), if_neg (by omega), if_neg (by omega)]
      have hs := netSend_any w.heap.size g 3 0 k ((k : Int) % 3) (((k : Int) + 1) % 3) (some ⟨wr.heap.size, 0, none⟩) 1 1 [(k : Int)] ds fs (wr.alloc (.cells #[.int .u8 (k : Int)] 5)) (hNr.below ((Below.refl _ _).alloc (Nat.le_refl _) _)) (Nat.le_refl _) (by unfold maxLen; omega)
        (Tr.one5 wr _) hse (by omega) (by omega) (by omega) (by omega) (by omega) (by simp; omega)
      have HS := Lib.hid hs
      have hb2 := hb.alloc hsz (.cells #[.int .u8 (k : Int)] 5)
      have HW8 := Lib.hid hw8
      clear hs hse hNr hN2 hbb2 hm3 hw8
      go_wp2_with fail
      refine HS.out.mono ?_
      rintro e w3 ⟨rfl, fs3, fl3, hA3, hk3, hN3, hK3⟩
      have hall := HA.out.add hA3 hk3
      have HALL := Lib.hid hall
      have hb3 := hb2.trans (hK3.below hb2.size)
      clear hall hA3 hk3 HS hb2 hK3 hb hsz
      go_wp2_with fail
      go_roundw
      case rel => exact ⟨k + 1, fs3, by omega, by go_num, hN3, HALL, hb3⟩
      case measure => simp [intOf]; omega
    · obtain rfl : k = N := by omega
      clear hN2 hbb2
      obtain ⟨i3, hi3, hy0, hy1, hy2⟩ := info_parts T.info3
      have hnd : n ≤ 1000 := by have := HN.out; omega
      go_wp2_with
        (at_make
         go_must (refine wpList_make_full _ rfl _ _ 41 rfl w.heap.size 3 i3 (.int .i64 0) 1 Try.underlying41 hi3 hy0 hy1 .i64 .i64 _ _ k rfl rfl rfl rfl (by rw [hy2]; omega) (by unfold maxLen; omega) hsz ?_)
         intro w3 hown3 hg3
         obtain ⟨hgc, hbk3⟩ := own_full hown3
         rw [made0] at hbk3
         have hN3 := hNr.grown hg3 (fun q t cs hq => by cases hq)
         have hb3 := hb.grown hg3 hsz (fun q hq => by cases hq)
         clear hown3)
      have hS0 : ∀ f ∈ fs, 1 ≤ f.due ∧ f.due ≤ 51 + 50 * (n : Int) := fun f hf => by
        obtain ⟨i, _, _, _, _, _, h1, h2⟩ := HA.out.mem hN3.good f hf
        rw [← HN.out] at h2
        exact ⟨h1, h2⟩
      have HS0 := Lib.hid hS0
      have hgl := hNr.lt
      clear hS0 hNr hb hsz hg3
      generalize wr.heap.size = gc at *
      go_loopw [57] (fun i wr => ∃ (s : Nat) (done rest : List Fl), s ≤ 1 + 51 * (1 + n) ∧ i = .int .i64 s ∧ Hid (fs = done ++ rest) ∧ Hid (∀ f, rest[0]? = some f → (s : Int) < f.due) ∧ NetSt wr w.heap.size g 3 s k ds rest ∧ Bk wr gc 3 (cntA k done) ∧ Below w.heap.size w wr) (fun i _ => (1 + 51 * (1 + n)) - (intOf i).toNat)
      case atStart =>
        refine ⟨0, [], fs, by omega, rfl, Lib.hid rfl, Lib.hid (fun f hf => ?_), hN3, hbk3, hb3⟩
        have := HS0.out f (List.mem_of_getElem? hf)
        omega
      case round =>
        obtain ⟨s, done, rest, hs, rfl, HF, HG, hNs, hbs, hb⟩ := hrel
        have hrl : rest.length ≤ 900000 := by have h1 := congrArg List.length HF.out; simp at h1; omega
        clear hN3 hbk3 hb3
        by_cases hlt : s < 1 + 51 * (1 + n)
        · go_wp2_with fail
          refine (netStep_any w.heap.size g 3 s k ds rest wr hNs (by omega) (by omega) hrl).mono ?_
          rintro e w4 ⟨l, rest', PA, pc, hf, _, hgt, rfl, hown, hN4, hK4, hdat⟩
          have hT4 : Tr w4 45 3 PA l.length (pkCs l) := Tr.of_own hown
          have hb4 := hb.trans (hK4.below hb.size)
          have hbs4 := hK4.block _ _ _ hbs (by decide) (by decide)
          have HF4 : Hid (fs = (done ++ l) ++ rest') := Lib.hid (by rw [HF.out, hf]; simp)
          have HGT := Lib.hid hgt
          have HDAT := Lib.hid hdat
          have hlb : l.length ≤ 31031 := by have h1 := congrArg List.length HF4.out; simp at h1; omega
          clear hf hgt hdat HF HG hown hK4 hNs hbs hb hrl
          obtain ⟨m, hm⟩ : ∃ m, m = l.length := ⟨_, rfl⟩
          rw [← hm] at hT4 hlb ⊢
          have HM := Lib.hid hm
          clear hm
          go_wp2_with fail
          go_loopw [62] (fun i wx => ∃ j : Nat, j ≤ m ∧ i = .int .i64 j ∧ NetSt wx w.heap.size g 3 (s + 1) k ds rest' ∧ Bk wx gc 3 (cntA k (done ++ l.take j)) ∧ Tr wx 45 3 PA m (pkCs l) ∧ Hid (∀ f ∈ l, Tr wx 5 1 f.A f.n (f.dat.map (Value.int .u8)) ∧ f.n ≤ f.c ∧ f.c ≤ maxLen) ∧ Below w.heap.size w wx) (fun i _ => m - (intOf i).toNat)
          case atStart => exact ⟨0, Nat.zero_le _, rfl, hN4, by simpa using hbs4, hT4, HDAT, hb4⟩
          case round =>
            obtain ⟨j, hj, rfl, hNx, hbx, hTx, HDx, hb⟩ := hrel
            clear hN4 hbs4 hT4 HDAT hb4
            by_cases hjl : j < m
            · obtain ⟨f, hfj⟩ : ∃ f, l[j]? = some f := ⟨_, List.getElem?_eq_getElem (by have := HM.out; omega)⟩
              have hfl := List.mem_of_getElem? hfj
              obtain ⟨i, hi, e1, e2, e3, e4, _, _⟩ := HA.out.mem hNx.good f (by rw [HF4.out]; simp [hfl])
              obtain ⟨hT, hnc1, hcm1⟩ := HDx.out f hfl
              rw [e4] at hT
              have hn1 : f.n = 1 := by have := hT.1; simp at this; omega
              obtain ⟨pb, po, rfl, _, q0, q1, q2⟩ := hTx.rd.pk j f hfj hjl
              obtain ⟨db, dof, dcs, hfA, hdk, hdc⟩ := hT.2 (by omega)
              have d0 : dcs[dof]? = some (.int .u8 i) := by have := hdc 0 _ rfl; simpa using this
              rw [e2] at q0
              rw [e3] at q1
              rw [hn1, hfA] at q2
              rw [hn1] at hnc1
              generalize f.c = fc at q2 hnc1 hcm1
              have HE1 := Lib.hid e1
              have HFJ := Lib.hid hfj
              have hcm2 : fc ≤ 9223372036854775807 := hcm1
              have hnL : n ≤ 1000 := by have := HN.out; omega
              clear e1 e2 e3 e4 hfl hT hn1 hdc hfA hcm1 hfj
              go_wp2_with fail
              have hb1 := hb.alloc hb.size (.cells #[.int .i64 ((i : Int) % 3), .int .i64 (((i : Int) + 1) % 3), .slice (some ⟨db, dof, none⟩) 1 fc] 45)
              have hB1 := (Below.refl wr.heap.size wr).alloc (Nat.le_refl _) (.cells #[.int .i64 ((i : Int) % 3), .int .i64 (((i : Int) + 1) % 3), .slice (some ⟨db, dof, none⟩) 1 fc] 45)
              have hk1 := Bk.new wr 45 #[.int .i64 ((i : Int) % 3), .int .i64 (((i : Int) + 1) % 3), .slice (some ⟨db, dof, none⟩) 1 fc]
              have hd1 := hdk.alloc (.cells #[.int .i64 ((i : Int) % 3), .int .i64 (((i : Int) + 1) % 3), .slice (some ⟨db, dof, none⟩) 1 fc] 45)
              have hc1 := hbx.alloc (.cells #[.int .i64 ((i : Int) % 3), .int .i64 (((i : Int) + 1) % 3), .slice (some ⟨db, dof, none⟩) 1 fc] 45)
              have hN1 := hNx.below hB1
              have hT1 : Tr _ 45 3 _ m (pkCs l) := hTx.below hB1
              have HD1 : Hid (∀ f ∈ l, Tr (wr.alloc (.cells #[.int .i64 ((i : Int) % 3), .int .i64 (((i : Int) + 1) % 3), .slice (some ⟨db, dof, none⟩) 1 fc] 45)) 5 1 f.A f.n (f.dat.map (Value.int .u8)) ∧ f.n ≤ f.c ∧ f.c ≤ maxLen) := Lib.hid fun f hf => ⟨(HDx.out f hf).1.below hB1, (HDx.out f hf).2⟩
              clear hdk hbx hNx hTx HDx hb hB1 q0 q1 q2
              generalize wr.alloc (.cells #[.int .i64 ((i : Int) % 3), .int .i64 (((i : Int) + 1) % 3), .slice (some ⟨db, dof, none⟩) 1 fc] 45) = W1 at *
              generalize wr.heap.size = hh at *
              have a0 : W1.cell? ⟨hh, 0, none⟩ = some (.int .i64 ((i : Int) % 3)) := hk1.cell 0
              have a1 : W1.cell? ⟨hh, 1, none⟩ = some (.int .i64 (((i : Int) + 1) % 3)) := hk1.cell 1
              have a2 : W1.cell? ⟨hh, 2, none⟩ = some (.slice (some ⟨db, dof, none⟩) 1 fc) := hk1.cell 2
              have a3 : W1.cell? ⟨db, dof, none⟩ = some (.int .u8 i) := (hd1.cell _).trans d0
              have x1 : IntKind.i64.wrap (i : Int) = i := by rw [IntKind.wrap_i64]; omega
              have x2 : (i : Int).tmod 3 = (i : Int) % 3 := Int.tmod_eq_emod_of_nonneg (by omega)
              have x3 : IntKind.i64.wrap ((i : Int) % 3 + 1) = (i : Int) % 3 + 1 := by rw [IntKind.wrap_i64]; omega
              have x4 : ((i : Int) % 3 + 1).tmod 3 = ((i : Int) + 1) % 3 := by rw [Int.tmod_eq_emod_of_nonneg (by omega)]; omega
              have x5 : (i : Int) < k := by omega
              go_quiet (fail)
              rename_i nq
              obtain ⟨cn, hcn⟩ : ∃ cn, cn = cnt i (done ++ l.take j) := ⟨_, rfl⟩
              have hcnb : cn ≤ 31031 := by
                have h1 := congrArg List.length HF4.out
                have h2 : cnt i (done ++ l.take j) ≤ (done ++ l.take j).length := List.countP_le_length
                simp only [List.length_append, List.length_take] at h1 h2
                omega
              have g0 : (W1.drewN nq).cell? ⟨gc, i, none⟩ = some (.int .i64 cn) := ((hc1.drewN nq).cell i).trans (by rw [cntA_get _ _ _ hi, hcn])
              have g1 : (W1.drewN nq).frozen? ⟨gc, i, none⟩ = false := (hc1.drewN nq).frozen i
              replace a2 : (W1.drewN nq).cell? ⟨hh, 2, none⟩ = some (.slice (some ⟨db, dof, none⟩) 1 fc) := a2
              replace a3 : (W1.drewN nq).cell? ⟨db, dof, none⟩ = some (.int .u8 i) := a3
              have HCN := Lib.hid hcn
              have hB2 : Below W1.heap.size W1 (W1.drewN nq) := bel_drewN (Below.refl _ _) _
              have hN2 := hN1.below hB2
              have hT2 := hT1.below hB2
              have hc2 := hc1.drewN nq
              have hb2 := bel_drewN hb1 nq
              have HD2 : Hid (∀ f ∈ l, Tr (W1.drewN nq) 5 1 f.A f.n (f.dat.map (Value.int .u8)) ∧ f.n ≤ f.c ∧ f.c ≤ maxLen) := Lib.hid fun f hf => ⟨(HD1.out f hf).1.below hB2, (HD1.out f hf).2⟩
              clear hcn a0 a1 x2 x3 x4 hB2 hN1 hT1 hc1 hb1 HD1 hk1 hd1
              generalize W1.drewN nq = W2 at *
              have hgr := grownBy_set W2 gc i (.int .i64 ((cn : Int) + 1))
              have hN3 := hN2.grown hgr (fun q t cs hq hk => by injection hq with hq; subst hq; obtain rfl := Bk.same hk hc2; decide)
              have hT3 := hT2.grown hgr (fun q cs hq hk => by injection hq with hq; subst hq; exact Bk.ne_ hk hc2 (by decide) rfl)
              have hb3 := hb2.setCell (p := ⟨gc, i, none⟩) hgc (.int .i64 ((cn : Int) + 1))
              have hc3 := hc2.set_ i (.int .i64 ((cn : Int) + 1))
              have HD3 : Hid (∀ f ∈ l, Tr (W2.setCell ⟨gc, i, none⟩ (.int .i64 ((cn : Int) + 1))) 5 1 f.A f.n (f.dat.map (Value.int .u8)) ∧ f.n ≤ f.c ∧ f.c ≤ maxLen) := Lib.hid fun f hf => ⟨(HD2.out f hf).1.grown hgr (fun q cs hq hk => by injection hq with hq; subst hq; exact Bk.ne_ hk hc2 (by decide) rfl), (HD2.out f hf).2⟩
              have HC3 : Hid (Bk (W2.setCell ⟨gc, i, none⟩ (.int .i64 ((cn : Int) + 1))) gc 3 (cntA k (done ++ l.take (j + 1)))) := Lib.hid (by
                have h1 : done ++ l.take (j + 1) = (done ++ l.take j) ++ [f] := by rw [List.take_add_one, HFJ.out]; simp
                rw [h1, ← cntA_add _ _ f i HE1.out, ← HCN.out]
                exact hc3)
              clear hN2 hT2 hb2 HD2 hc3 hgr hc2
              go_wp2_with fail
              go_roundw
              case rel => exact ⟨j + 1, by omega, by go_num, hN3, HC3.out, hT3, HD3, hb3⟩
              case measure => simp [intOf]; omega
            · obtain rfl : j = m := by omega
              have HBX : Hid (Bk wr gc 3 (cntA k (done ++ l))) := Lib.hid (by
                rw [List.take_of_length_le (by have := HM.out; omega)] at hbx
                exact hbx)
              clear hbx
              go_wp2_with fail
              go_roundw
              case rel => exact ⟨s + 1, done ++ l, rest', by omega, by go_num, HF4, Lib.hid (fun f hf => by have := HGT.out f hf; omega), hNx, HBX.out, hb⟩
              case measure => simp [intOf]; omega
        · obtain rfl : s = 1 + 51 * (1 + n) := by omega
          have hrest : rest = [] := by
            cases rest with
            | nil => rfl
            | cons f rest =>
              have h1 := HG.out f rfl
              have h2 := HS0.out f (by rw [HF.out]; simp)
              omega
          subst hrest
          have hdone : done = fs := by rw [HF.out]; simp
          subst hdone
          clear hs hrl HS0 HG HF
          have hNf := hNs
          have hbf := hbs
          have hbb := hb
          clear hNs hbs hb
          go_wp2_with fail
          go_loopw [111] (fun v wr => ∃ i : Nat, i ≤ k ∧ v = .int .i64 i ∧ NetSt wr w.heap.size g 3 (1 + 51 * (1 + n) : Nat) k ds [] ∧ Bk wr gc 3 (cntA k done) ∧ Below w.heap.size w wr) (fun v _ => k - (intOf v).toNat)
          case atStart => exact ⟨0, Nat.zero_le _, rfl, hNf, hbf, hbb⟩
          case round =>
            obtain ⟨i, hi, rfl, hN1, hb1, hbb1⟩ := hrel
            clear hNf hbf hbb
            by_cases hik : i < k
            · go_wp2_with fail
              go_loopw [12, 13, 116] (fun want lost v wr => ∃ (q cl : Nat) (lo : Bool), q ≤ n ∧ v = .int .i64 q ∧ want = .int .i64 (1 + cl) ∧ lost = .bool lo ∧ Hid (lostB (ds.take q) i = lo ∧ (copOf (ds.take q) i).length = cl) ∧ NetSt wr w.heap.size g 3 (1 + 51 * (1 + n) : Nat) k ds [] ∧ Bk wr gc 3 (cntA k done) ∧ Below w.heap.size w wr) (fun _ _ v _ => n - (intOf v).toNat)
              case atStart => exact ⟨0, 0, false, Nat.zero_le _, rfl, rfl, rfl, Lib.hid (by simp [lostB, copOf]), hN1, hb1, hbb1⟩
              case round =>
                obtain ⟨q, cl, lo, hq, rfl, rfl, rfl, HQ, hN2, hb2, hbb2⟩ := hrel
                clear hN1 hb1 hbb1
                have hclb : cl ≤ 1000 := by
                  have h1 := copOf_length (ds.take q) i
                  rw [HQ.out.2, List.length_take] at h1
                  omega
                by_cases hqn : q < n
                · obtain ⟨d, hd⟩ : ∃ d, ds[q]? = some d := ⟨_, List.getElem?_eq_getElem (by have := HN.out; omega)⟩
                  obtain ⟨b, o, rfl, hbB, q0, q1, q2⟩ := (HR.out.below hbb2).dd q d hd hqn
                  have hst := deed_step ds q d i hd
                  rw [HQ.out.1] at hst
                  have hlen : (copOf (ds.take (q + 1)) i).length = cl + (if d.pk = i ∧ d.kind = 2 then 1 else 0) := by
                    rw [hst.2.2, List.length_append, HQ.out.2]
                    split <;> simp
                  obtain ⟨p1, p2, p3, p4, p5, p6⟩ := good_n (hN2.good d (List.mem_of_getElem? hd))
                  have hcase : ((d.pk == (i : Int)) = false ∧ lostB (ds.take (q + 1)) i = lo ∧ (copOf (ds.take (q + 1)) i).length = cl) ∨
                      (((d.pk == (i : Int)) = true ∧ (d.kind == 0) = true ∧ (d.kind == 2) = false) ∧ lostB (ds.take (q + 1)) i = true ∧ (copOf (ds.take (q + 1)) i).length = cl) ∨
                      (((d.pk == (i : Int)) = true ∧ (d.kind == 0) = false ∧ (d.kind == 2) = false) ∧ lostB (ds.take (q + 1)) i = lo ∧ (copOf (ds.take (q + 1)) i).length = cl) ∨
                      (((d.pk == (i : Int)) = true ∧ (d.kind == 0) = false ∧ (d.kind == 2) = true) ∧ lostB (ds.take (q + 1)) i = lo ∧ (copOf (ds.take (q + 1)) i).length = cl + 1) := by
                    rw [hst.2.1, hlen]
                    simp only [beq_iff_eq, beq_eq_false_iff_ne]
                    by_cases h1 : d.pk = i
                    · have hk3 : d.kind = 0 ∨ d.kind = 1 ∨ d.kind = 2 := by omega
                      rcases hk3 with h2 | h2 | h2
                      · right; left; exact ⟨⟨h1, h2, by omega⟩, by simp [h1, h2]⟩
                      · right; right; left; exact ⟨⟨h1, by omega, by omega⟩, by simp [h1, h2]⟩
                      · right; right; right; exact ⟨⟨h1, by omega, by omega⟩, by simp [h1, h2]⟩
                    · left; exact ⟨h1, by simp [h1]⟩
                  have hB := (Below.refl wr.heap.size wr).alloc (Nat.le_refl _) (.cells #[.int .i64 d.kind, .int .i64 d.pk, .int .i64 d.n] 47)
                  have hN3 := hN2.below hB
                  have hb3 := hb2.alloc (.cells #[.int .i64 d.kind, .int .i64 d.pk, .int .i64 d.n] 47)
                  have hbb3 := hbb2.alloc hbb2.size (.cells #[.int .i64 d.kind, .int .i64 d.pk, .int .i64 d.n] 47)
                  clear hst hlen hd HQ hN2 hb2 hbb2 hB
                  rcases hcase with ⟨t1, hst⟩ | ⟨⟨t1, t2, t3⟩, hst⟩ | ⟨⟨t1, t2, t3⟩, hst⟩ | ⟨⟨t1, t2, t3⟩, hst⟩
                  all_goals
                    have HS := Lib.hid hst
                    clear hst
                    cases lo
                  all_goals
                    go_wp2_with fail
                    go_roundw
                  case rel => exact ⟨q + 1, cl, false, by omega, by go_num, rfl, rfl, HS, hN3, hb3, hbb3⟩
                  case rel => exact ⟨q + 1, cl, true, by omega, by go_num, rfl, rfl, HS, hN3, hb3, hbb3⟩
                  case rel => exact ⟨q + 1, cl, true, by omega, by go_num, rfl, rfl, HS, hN3, hb3, hbb3⟩
                  case rel => exact ⟨q + 1, cl, true, by omega, by go_num, rfl, rfl, HS, hN3, hb3, hbb3⟩
                  case rel => exact ⟨q + 1, cl, false, by omega, by go_num, rfl, rfl, HS, hN3, hb3, hbb3⟩
                  case rel => exact ⟨q + 1, cl, true, by omega, by go_num, rfl, rfl, HS, hN3, hb3, hbb3⟩
                  case rel => exact ⟨q + 1, cl + 1, false, by omega, by go_num, by go_num, rfl, HS, hN3, hb3, hbb3⟩
                  case rel => exact ⟨q + 1, cl + 1, true, by omega, by go_num, by go_num, rfl, HS, hN3, hb3, hbb3⟩
                  all_goals simp [intOf]; omega
                · obtain rfl : q = n := by omega
                  have hval : cnt i done = if lo then 0 else 1 + cl := by
                    rw [HA.out.cnt i hik, timesOf_count]
                    have := HQ.out
                    rw [List.take_of_length_le (by have := HN.out; omega)] at this
                    rw [this.1, this.2]
                  have hcell : wr.cell? ⟨gc, i, none⟩ = some (.int .i64 ((if lo then 0 else 1 + cl : Nat) : Int)) := by
                    rw [hb2.cell i, cntA_get _ _ _ hik, hval]
                  clear hval HQ
                  cases lo
                  all_goals
                    simp only [if_true, if_false, Bool.false_eq_true, Int.natCast_add, Int.cast_ofNat_Int, Int.natCast_one, Int.natCast_zero] at hcell
                    go_wp2_with fail
                    go_roundw
                  case rel => exact ⟨i + 1, by omega, by go_num, hN2, hb2, hbb2⟩
                  case rel => exact ⟨i + 1, by omega, by go_num, hN2, hb2, hbb2⟩
                  all_goals simp [intOf]; omega
            · obtain rfl : i = k := by omega
              clear HA
              go_wp2_with fail
              refine (netLeft_any w.heap.size g 3 _ _ ds [] wr hN1).mono ?_
              rintro e w5 ⟨rfl, rfl⟩
              go_wp2_with fail
              refine (netSent_any w.heap.size g 3 _ _ ds [] _ hN1).mono ?_
              rintro e w6 ⟨rfl, rfl⟩
              go_wp2_with fail
              go_ret
              exact ⟨rfl, hbb1⟩
end Go.Proofs.Ytlgcdcjfobfoiaa
