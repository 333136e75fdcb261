/-
  The contract of prefab.comps. Conditions: what is read can be read.
-/
import Derived.Test.YtnidcmhfbkdioaaMa
import Derived.Test.YtnidcmhfbkdioaaHa
import Derived.StillTailTactics
import Derived.BigQuiet
namespace Go.Proofs.Ytnidcmhfbkdioaa
open Go.RowKit
set_option maxRecDepth 100000

/-- prefab.comps: the first fault of components, or 0. -/
def pcompF (ks : List Kp2) : Option Int → List (Int × List Int) → Int
  | _, [] => 0
  | pr, x :: r => if x.1 < 0 ∨ (ks.length : Int) ≤ x.1 then 1 else if (match pr with | some p => decide (x.1 ≤ p) | none => false) = true then 9 else
    match ks[x.1.toNat]? with
    | none => 1
    | some d => if (fitF d.1 d.2 x.2).2 ≠ 0 then (fitF d.1 d.2 x.2).2 else if (fitF d.1 d.2 x.2).1 ≠ x.2 then 1 else pcompF ks (some x.1) r
theorem pcompF_cons (ks : List Kp2) (pr : Option Int) (x : Int × List Int) (r : List (Int × List Int)) : pcompF ks pr (x :: r) = if x.1 < 0 ∨ (ks.length : Int) ≤ x.1 then 1 else if (match pr with | some p => decide (x.1 ≤ p) | none => false) = true then 9 else
    match ks[x.1.toNat]? with
    | none => 1
    | some d => if (fitF d.1 d.2 x.2).2 ≠ 0 then (fitF d.1 d.2 x.2).2 else if (fitF d.1 d.2 x.2).1 ≠ x.2 then 1 else pcompF ks (some x.1) r := rfl
def prevK (l : List Cm) (i : Nat) : Option Int := if i = 0 then none else (l[i - 1]?).map Cm.k

set_option maxHeartbeats 8000000 in
theorem pcomps_any {w : World} {B kn kc n c : Nat} {kA A : Option Addr} {ks : List Kd} {l : List Cm} (hk : KsOk w B kA kn kc ks) (hc : CsOk w B A n c l) :
    Calls Try.prog 141 #[.slice kA kn kc, .slice A n c] w fun e w' => e = .returned (.int .i64 (pcompF (ks.map Kd.p) none (l.map Cm.p))) ∧ Below w.heap.size w w' := by
  obtain ⟨R, hR⟩ : ∃ R, R = pcompF (ks.map Kd.p) none (l.map Cm.p) := ⟨_, rfl⟩
  rw [← hR]
  have hcap := hk.cap
  have hcap2 := hk.cap2
  have hcc := hc.cap
  have hcc2 := hc.cap2
  have HK := Lib.hid hk
  have HC := Lib.hid hc
  have HR : Hid (R = pcompF (ks.map Kd.p) (prevK l 0) ((l.drop 0).map Cm.p)) := Lib.hid (by rw [List.drop_zero]; exact hR)
  clear hk hc hR
  go_enter Try.func141, Try.ntmps141
  go_wp2_with fail
  go_loopw [11] (fun iv wr => ∃ i : Nat, i ≤ n ∧ iv = .int .i64 i ∧ Hid (R = pcompF (ks.map Kd.p) (prevK l i) ((l.drop i).map Cm.p)) ∧ Hid (Below w.heap.size w wr)) (fun iv _ => n - (intOf iv).toNat)
  case atStart => exact ⟨0, Nat.zero_le _, rfl, HR, Lib.hid (Below.refl _ _)⟩
  case round =>
    clear HR
    obtain ⟨i, hi, rfl, HR, HW⟩ := hrel
    by_cases hlt : i < n
    · obtain ⟨x, hx⟩ : ∃ x, l[i]? = some x := ⟨_, List.getElem?_eq_getElem (by have := HC.out.len; omega)⟩
      have hB := HC.out.lo
      have hrr := HR.out
      rw [List.drop_eq_getElem_cons (by have := HC.out.len; omega), (List.getElem?_eq_some_iff.1 hx).2, List.map_cons] at hrr
      have hcw := HC.out.below (HW.out.mono hB)
      have hkw := HK.out.below (HW.out.mono hB)
      have hxo := hcw.ok x (List.mem_of_getElem? hx)
      have hxr := bounds_i64 hxo.wf
      obtain ⟨b, o, rfl, hbb, q0, q1⟩ := hcw.rd.cm hlt hx
      have hiz : (i : Int) < n := by omega
      have hiz0 : (0 : Int) ≤ i := by omega
      have HXX := Lib.hid hx
      obtain ⟨xk, hxk⟩ : ∃ xk, xk = x.k := ⟨_, rfl⟩
      obtain ⟨xA, hxA⟩ : ∃ xA, xA = x.A := ⟨_, rfl⟩
      obtain ⟨xn, hxn⟩ : ∃ xn, xn = x.n := ⟨_, rfl⟩
      obtain ⟨xc, hxc⟩ : ∃ xc, xc = x.c := ⟨_, rfl⟩
      rw [← hxk] at q0 hxr
      rw [← hxA, ← hxn, ← hxc] at q1
      have HXK := Lib.hid hxk
      have HXO := Lib.hid hxo
      have HRR := Lib.hid hrr
      have HX3 := Lib.hid (And.intro hxA (And.intro hxn hxc))
      obtain ⟨W1, hW1⟩ : ∃ W1, W1 = wr.alloc (.cells #[.int .i64 xk, .slice xA xn xc] 166) := ⟨_, rfl⟩
      have hb1 : Below wr.heap.size wr W1 := by rw [hW1]; exact (Below.refl _ _).alloc (Nat.le_refl _) _
      have hh1 : Bk W1 wr.heap.size 166 #[.int .i64 xk, .slice xA xn xc] := by rw [hW1]; exact Bk.new _ _ _
      obtain ⟨hh, hhh⟩ : ∃ hh, hh = wr.heap.size := ⟨_, rfl⟩
      rw [← hhh] at hh1
      have c0 : W1.cell? ⟨hh, 0, none⟩ = some (.int .i64 xk) := hh1.cell 0
      have c1 : W1.cell? ⟨hh, 1, none⟩ = some (.slice xA xn xc) := hh1.cell 1
      have HB1w : Hid (Below w.heap.size w W1) := Lib.hid (HW.out.trans (hb1.mono HW.out.size))
      have HKW : Hid (KsOk W1 B kA kn kc ks) := Lib.hid (hkw.below (hb1.mono (Nat.le_trans hB HW.out.size)))
      have HCW : Hid (CsOk W1 B (some ⟨b, o, none⟩) n c l) := Lib.hid (hcw.below (hb1.mono (Nat.le_trans hB HW.out.size)))
      have HBW : Hid (B ≤ W1.heap.size) := Lib.hid (by have := hb1.size; have := HW.out.size; omega)
      have HW1 := Lib.hid (And.intro hW1 hhh)
      have HHB := Lib.hid hh1
      clear hx hrr hcw hxo hxk hxA hxn hxc hkw HR hW1 hb1 hh1 hhh hbb
      go_upto_region 4 with fail
      rw [← HW1.out.1, ← HW1.out.2]
      clear q0 q1
      by_cases h1 : xk < 0 ∨ (kn : Int) ≤ xk
      · have hRf : R = 1 := by
          rw [HRR.out]; unfold pcompF
          rw [if_pos (by have := HK.out.len; unfold Cm.p; dsimp only; rw [← HXK.out, List.length_map]; omega)]
        subst hRf
        have H1 := Lib.hid h1
        clear h1
        by_cases h2 : xk < 0
        · go_wp2_with fail
          go_ret
          exact ⟨rfl, HB1w.out⟩
        · have h3 : (kn : Int) ≤ xk := by have := H1.out; omega
          go_wp2_with fail
          go_ret
          exact ⟨rfl, HB1w.out⟩
      · obtain ⟨K, hKe⟩ : ∃ K : Nat, xk = K := ⟨xk.toNat, by omega⟩
        subst hKe
        have h0 : ¬ ((K : Int) < 0) := by omega
        have h2 : (K : Int) < kn := by omega
        have h3 : ¬ ((kn : Int) ≤ K) := by omega
        have hc0 : ¬ ((Cm.p x).1 < 0 ∨ (((ks.map Kd.p).length : Nat) : Int) ≤ (Cm.p x).1) := by have := HK.out.len; unfold Cm.p; dsimp only; rw [← HXK.out, List.length_map]; omega
        clear h1
        obtain ⟨pv, hpv⟩ : ∃ pv, pv = (match prevK l i with | some p => decide ((K : Int) ≤ p) | none => false) := ⟨_, rfl⟩
        have HPV := Lib.hid hpv
        clear hpv
        go_upto_if 38 with fail
        go_cut [38] from 26 to 37 (fun bv wx => bv = .bool pv ∧ ∃ q, W1.drewN q = wx)
        case first =>
          rcases Nat.eq_zero_or_pos i with hi0 | hi0
          · subst hi0
            have hp0 : pv = false := by rw [HPV.out]; rfl
            subst hp0
            go_wp2_with fail
            go_quiet (fail)
            go_wp2_with fail
            go_meet
            case rel => exact ⟨rfl, _, rfl⟩
          · obtain ⟨j, hj⟩ : ∃ j, i = j + 1 := ⟨i - 1, by omega⟩
            obtain ⟨y, hy⟩ : ∃ y, l[j]? = some y := ⟨_, List.getElem?_eq_getElem (by have := HC.out.len; omega)⟩
            obtain ⟨b2, o2, e2, hbb2, r0, r1⟩ := HCW.out.rd.cm (by omega) hy
            injection e2 with e2
            injection e2 with e3 e4
            subst e3 e4
            have hp : prevK l i = some y.k := by unfold prevK; rw [if_neg (by omega), hj, Nat.add_sub_cancel, hy]; rfl
            have hp2 : pv = decide ((K : Int) ≤ y.k) := by rw [HPV.out, hp]
            subst hp2
            have hz1 : IntKind.i64.wrap ((i : Int) - 1) = (j : Int) := by rw [IntKind.wrap_i64]; omega
            have hz2 : (0 : Int) < i := by omega
            have hz3 : (j : Int) < n := by omega
            have hz4 : (0 : Int) ≤ j := by omega
            clear hy hp hj
            generalize y.k = yk at *
            go_wp2_with fail
            go_quiet (fail)
            go_wp2_with fail
            go_meet
            case rel => exact ⟨rfl, _, rfl⟩
        case rest =>
          obtain ⟨rfl, q, rfl⟩ := hcut
          have hbq : Below W1.heap.size W1 (W1.drewN q) := below_drewN (Below.refl _ _) q
          have hhq : Bk (W1.drewN q) hh 166 #[.int .i64 (K : Int), .slice xA xn xc] := HHB.out.drewN q
          have HBQ : Hid (Below w.heap.size w (W1.drewN q)) := Lib.hid (below_drewN HB1w.out q)
          have HKQ : Hid (KsOk (W1.drewN q) B kA kn kc ks) := Lib.hid (HKW.out.below (hbq.mono HBW.out))
          have HCQ : Hid (CsOk (W1.drewN q) B (some ⟨b, o, none⟩) n c l) := Lib.hid (HCW.out.below (hbq.mono HBW.out))
          have hBQ : B ≤ (W1.drewN q).heap.size := HBW.out
          obtain ⟨W2, hW2⟩ : ∃ W2, W2 = W1.drewN q := ⟨_, rfl⟩
          rw [← hW2] at hhq HBQ HKQ HCQ hBQ ⊢
          clear c0 c1 hbq HHB HBW HB1w HKW HCW hW2
          have c0 : W2.cell? ⟨hh, 0, none⟩ = some (.int .i64 K) := hhq.cell 0
          have c1 : W2.cell? ⟨hh, 1, none⟩ = some (.slice xA xn xc) := hhq.cell 1
          cases pv with
          | true =>
            have hRf : R = 9 := by
              rw [HRR.out]; unfold pcompF
              rw [if_neg hc0, if_pos (by have h9 := HPV.out; unfold Cm.p; dsimp only; rw [← HXK.out]; exact h9.symm)]
            subst hRf
            go_wp2_with fail
            go_ret
            exact ⟨rfl, HBQ.out⟩
          | false =>
            obtain ⟨kd, hkd⟩ : ∃ kd, ks[K]? = some kd := ⟨_, List.getElem?_eq_getElem (by have := HK.out.len; omega)⟩
            have hko := HKQ.out.ok kd (List.mem_of_getElem? hkd)
            obtain ⟨kb, ko, rfl, hkb, k0, k1⟩ := HKQ.out.rd.kd (by omega) hkd
            have hrr : R = (if (fitF kd.nm kd.fds x.vals).2 ≠ 0 then (fitF kd.nm kd.fds x.vals).2 else if (fitF kd.nm kd.fds x.vals).1 ≠ x.vals then 1 else pcompF (ks.map Kd.p) (some (K : Int)) ((l.drop (i + 1)).map Cm.p)) := by
              have e9 : (ks.map Kd.p)[(Cm.p x).1.toNat]? = some (Kd.p kd) := by
                unfold Cm.p; dsimp only
                rw [← HXK.out, Int.toNat_natCast, List.getElem?_map, hkd]; rfl
              rw [HRR.out, pcompF_cons, if_neg hc0, if_neg (by have h9 := HPV.out; unfold Cm.p; dsimp only; rw [← HXK.out, ← h9]; simp), e9, show (Cm.p x).1 = (K : Int) from HXK.out.symm]
              rfl
            have HFT : Hid (∀ wz, Below W2.heap.size W2 wz → Calls Try.prog 156 #[.agg #[.string kd.nm, .slice kd.A kd.n kd.c], .slice xA xn xc] wz (FitP wz (fitF kd.nm kd.fds x.vals))) := Lib.hid (fun wz hz => by
              have h1 := HXO.out
              rw [HX3.out.1, HX3.out.2.1, HX3.out.2.2]
              refine fit_any kd.nm kd.A kd.n kd.c kd.fds x.A x.n x.c B x.vals wz (hko.rd.below (hz.mono hBQ)) hko.len hko.cap hko.cap2 ?_ h1.len h1.cap h1.cap2 (by have := hz.size; omega)
              have h2 := (HCQ.out.ok x (List.mem_of_getElem? HXX.out)).rd
              exact h2.below (hz.mono hBQ))
            obtain ⟨FT, hFT⟩ : ∃ FT, FT = fitF kd.nm kd.fds x.vals := ⟨_, rfl⟩
            rw [← hFT] at HFT hrr
            have HRX := Lib.hid hrr
            generalize kd.nm = dn at *
            generalize kd.A = dA at *
            generalize kd.n = dm at *
            generalize kd.c = dc at *
            have hK0 : (0 : Int) ≤ K := by omega
            have hkl : kb < W2.heap.size := by omega
            have hhl : hh < W2.heap.size := hhq.lt
            have HS5 : Hid (∀ wz, Below W2.heap.size W2 wz → wz.cell? ⟨hh, 0, none⟩ = some (.int .i64 K) ∧ wz.cell? ⟨hh, 1, none⟩ = some (.slice xA xn xc) ∧ wz.cell? ⟨kb, ko + K * 2, none⟩ = some (.string dn) ∧ wz.cell? ⟨kb, ko + K * 2 + 1, none⟩ = some (.slice dA dm dc)) := Lib.hid (fun wz hz => ⟨(hhq.below hz hhl).cell 0, (hhq.below hz hhl).cell 1, (World.cell?_of_block (w := W2) (hz.block kb hkl)).trans k0, (World.cell?_of_block (w := W2) (hz.block kb hkl)).trans k1⟩)
            have s5 := HS5.out W2.drew (Below.refl _ _).drew
            clear hkd hko hrr hFT HRR k0 k1
            go_upto_region 8 with fail
            go_cut [7, 8] from 39 to 49 (fun av bv wx => ∃ (fA : Option Addr) (fc : Nat), av = .slice fA FT.1.length fc ∧ bv = .int .i64 FT.2 ∧ FT.1.length ≤ 9223372036854775807 ∧ Hid (Rd wx wx.heap.size 1 fA FT.1.length (FT.1.map (Value.int .i64))) ∧ Hid (Below W2.heap.size W2 wx))
            case first =>
              refine wp_region_H (S := fun wz => wz.cell? ⟨hh, 0, none⟩ = some (.int .i64 K) ∧ wz.cell? ⟨hh, 1, none⟩ = some (.slice xA xn xc) ∧ wz.cell? ⟨kb, ko + K * 2, none⟩ = some (.string dn) ∧ wz.cell? ⟨kb, ko + K * 2 + 1, none⟩ = some (.slice dA dm dc)) (by kernel_rfl) ?_
              refine wpAnyH_val (i := 0) (v := .slice (some ⟨kb, ko, none⟩) kn kc) (d := some 40) rfl rfl (by kernel_rfl) (by kernel_rfl) (by kernel_rfl) (fun _ _ _ h => h) (Or.inl ⟨by rfl, fun w hS => by (obtain ⟨h0, h1, h2, h3⟩ := hS; go_simp)⟩) s5 ?_
              (try simp only [Act.put, List.setIfInBounds_toArray, List.set_cons_zero, List.set_cons_succ])
              refine wpAnyH_val (i := 1) (v := .pointer (some ⟨hh, 0, none⟩)) (d := some 41) rfl rfl (by kernel_rfl) (by kernel_rfl) (by kernel_rfl) (fun _ _ _ h => h) (Or.inl ⟨by rfl, fun w hS => by (obtain ⟨h0, h1, h2, h3⟩ := hS; go_simp)⟩) s5 ?_
              (try simp only [Act.put, List.setIfInBounds_toArray, List.set_cons_zero, List.set_cons_succ])
              refine wpAnyH_val (i := 2) (v := .int .i64 K) (d := some 42) rfl rfl (by kernel_rfl) (by kernel_rfl) (by kernel_rfl) (fun _ _ _ h => h) (Or.inl ⟨by rfl, fun w hS => by (obtain ⟨h0, h1, h2, h3⟩ := hS; go_simp)⟩) s5 ?_
              (try simp only [Act.put, List.setIfInBounds_toArray, List.set_cons_zero, List.set_cons_succ])
              refine wpAnyH_val (i := 3) (v := .pointer (some ⟨kb, ko + K * 2, none⟩)) (d := some 43) rfl rfl (by kernel_rfl) (by kernel_rfl) (by kernel_rfl) (fun _ _ _ h => h) (Or.inl ⟨by rfl, fun w hS => by (obtain ⟨h0, h1, h2, h3⟩ := hS; go_simp)⟩) s5 ?_
              (try simp only [Act.put, List.setIfInBounds_toArray, List.set_cons_zero, List.set_cons_succ])
              refine wpAnyH_val (i := 4) (v := .agg #[.string dn, .slice dA dm dc]) (d := some 44) rfl rfl (by kernel_rfl) (by kernel_rfl) (by kernel_rfl) (fun _ _ _ h => h) (Or.inl ⟨by rfl, fun w hS => by (obtain ⟨h0, h1, h2, h3⟩ := hS; go_simp)⟩) s5 ?_
              (try simp only [Act.put, List.setIfInBounds_toArray, List.set_cons_zero, List.set_cons_succ])
              refine wpAnyH_val (i := 5) (v := .pointer (some ⟨hh, 1, none⟩)) (d := some 45) rfl rfl (by kernel_rfl) (by kernel_rfl) (by kernel_rfl) (fun _ _ _ h => h) (Or.inl ⟨by rfl, fun w hS => by (obtain ⟨h0, h1, h2, h3⟩ := hS; go_simp)⟩) s5 ?_
              (try simp only [Act.put, List.setIfInBounds_toArray, List.set_cons_zero, List.set_cons_succ])
              refine wpAnyH_val (i := 6) (v := .slice xA xn xc) (d := some 46) rfl rfl (by kernel_rfl) (by kernel_rfl) (by kernel_rfl) (fun _ _ _ h => h) (Or.inl ⟨by rfl, fun w hS => by (obtain ⟨h0, h1, h2, h3⟩ := hS; go_simp)⟩) s5 ?_
              (try simp only [Act.put, List.setIfInBounds_toArray, List.set_cons_zero, List.set_cons_succ])
              refine wpAnyH_oneW (i := 7) rfl (by kernel_rfl) (by rfl) ?_
              go_simp
              go_at_call 156
              (with_reducible refine (HFT.out _ ?hb).mono ?_)
              case hb => (repeat' first | exact Below.refl _ _ | refine Below.drew ?_)
              rintro e w6 ⟨fA, fc, rfl, hown6, hb6⟩
              have hB6 : Below W2.heap.size W2 w6 := by first | exact hb6 | exact (Below.refl _ _).drew.trans hb6
              have s6 := HS5.out _ hB6
              refine And.intro s6 ?_
              (try simp only [Act.put, List.setIfInBounds_toArray, List.set_cons_zero, List.set_cons_succ])
              refine wpAnyH_val (i := 8) (v := .tuple #[.slice fA FT.1.length fc, .int .i64 FT.2]) (d := some 39) rfl rfl (by kernel_rfl) (by kernel_rfl) (by kernel_rfl) (fun _ _ _ h => h) (Or.inl ⟨by rfl, fun w hS => by (obtain ⟨h0, h1, h2, h3⟩ := hS; go_simp)⟩) s6 ?_
              (try simp only [Act.put, List.setIfInBounds_toArray, List.set_cons_zero, List.set_cons_succ])
              refine wpAnyH_val (i := 9) (v := .slice fA FT.1.length fc) (d := some 48) rfl rfl (by kernel_rfl) (by kernel_rfl) (by kernel_rfl) (fun _ _ _ h => h) (Or.inl ⟨by rfl, fun w hS => by (obtain ⟨h0, h1, h2, h3⟩ := hS; go_simp)⟩) s6 ?_
              (try simp only [Act.put, List.setIfInBounds_toArray, List.set_cons_zero, List.set_cons_succ])
              refine wpAnyH_val (i := 10) (v := .int .i64 FT.2) (d := some 49) rfl rfl (by kernel_rfl) (by kernel_rfl) (by kernel_rfl) (fun _ _ _ h => h) (Or.inl ⟨by rfl, fun w hS => by (obtain ⟨h0, h1, h2, h3⟩ := hS; go_simp)⟩) s6 ?_
              (try simp only [Act.put, List.setIfInBounds_toArray, List.set_cons_zero, List.set_cons_succ])
              refine wpAnyH_val (i := 11) (v := .slice fA FT.1.length fc) (d := some 7) rfl rfl (by kernel_rfl) (by kernel_rfl) (by kernel_rfl) (fun _ _ _ h => h) (Or.inl ⟨by rfl, fun w hS => by (obtain ⟨h0, h1, h2, h3⟩ := hS; go_simp)⟩) s6 ?_
              (try simp only [Act.put, List.setIfInBounds_toArray, List.set_cons_zero, List.set_cons_succ])
              refine wpAnyH_val (i := 12) (v := .int .i64 FT.2) (d := some 8) rfl rfl (by kernel_rfl) (by kernel_rfl) (by kernel_rfl) (fun _ _ _ h => h) (Or.inl ⟨by rfl, fun w hS => by (obtain ⟨h0, h1, h2, h3⟩ := hS; go_simp)⟩) s6 ?_
              (try simp only [Act.put, List.setIfInBounds_toArray, List.set_cons_zero, List.set_cons_succ])
              refine wpAnyH_done (by kernel_rfl) ?_ _
              go_wp2_with fail
              go_meet
              case rel => exact ⟨fA, fc, rfl, rfl, Nat.le_trans (own_cap2 hown6).1 (own_cap2 hown6).2, Lib.hid (Rd.of_own hown6), Lib.hid hB6⟩
            case rest =>
              obtain ⟨fA, fc, rfl, rfl, hFL, HF, HB3⟩ := hcut
              obtain ⟨W3, rfl⟩ : ∃ q, q = wc := ⟨_, rfl⟩
              have hh3 := hhq.below HB3.out hhl
              have HBW3 : Hid (Below w.heap.size w W3) := Lib.hid (HBQ.out.trans (HB3.out.mono HBQ.out.size))
              have e0 : W3.cell? ⟨hh, 0, none⟩ = some (.int .i64 K) := hh3.cell 0
              have e1 : W3.cell? ⟨hh, 1, none⟩ = some (.slice xA xn xc) := hh3.cell 1
              by_cases hf2 : FT.2 = 0
              · by_cases hf1 : FT.1 = x.vals
                · have HEQ := Lib.hid (equalInts_any fA xA FT.1.length fc xn xc W3.heap.size FT.1 x.vals W3 rfl (by rw [HX3.out.2.1]; exact HXO.out.len) (by rw [hf1]; have h1 := HXO.out.len; have h2 := HXO.out.cap; have h3 := HXO.out.cap2; omega) HF.out (by have h2 : Rd W3 W3.heap.size 1 x.A x.n (x.vals.map (Value.int .i64)) := ((HCQ.out.ok x (List.mem_of_getElem? HXX.out)).rd.below (HB3.out.mono hBQ)).more (by have := HB3.out.size; omega); rw [HX3.out.1, HX3.out.2.1]; exact h2))
                  rw [decide_eq_true hf1] at HEQ
                  have HRN : Hid (R = pcompF (ks.map Kd.p) (prevK l (i + 1)) ((l.drop (i + 1)).map Cm.p)) := Lib.hid (by
                    rw [HRX.out, if_neg (by omega), if_neg (by rw [hf1]; simp)]
                    congr 1
                    unfold prevK
                    rw [if_neg (by omega), Nat.add_sub_cancel, HXX.out, HXK.out]; rfl)
                  rw [hf2]
                  clear hf1 hf2 HRX
                  go_wp2_with fail
                  with_reducible refine (HEQ.out).mono ?_
                  rintro e w4 ⟨rfl, m4, rfl⟩
                  go_wp2_with fail
                  go_roundw
                  case measure => simp [intOf]; omega
                  case rel => exact ⟨i + 1, hlt, by go_num, HRN, Lib.hid (below_drewN HBW3.out m4)⟩
                · have HEQ := Lib.hid (equalInts_any fA xA FT.1.length fc xn xc W3.heap.size FT.1 x.vals W3 rfl (by rw [HX3.out.2.1]; exact HXO.out.len) hFL HF.out (by have h2 : Rd W3 W3.heap.size 1 x.A x.n (x.vals.map (Value.int .i64)) := ((HCQ.out.ok x (List.mem_of_getElem? HXX.out)).rd.below (HB3.out.mono hBQ)).more (by have := HB3.out.size; omega); rw [HX3.out.1, HX3.out.2.1]; exact h2))
                  rw [decide_eq_false hf1] at HEQ
                  have hRf : R = 1 := by rw [HRX.out, if_neg (by omega), if_pos hf1]
                  subst hRf
                  rw [hf2]
                  clear hf1 hf2 HRX
                  go_wp2_with fail
                  with_reducible refine (HEQ.out).mono ?_
                  rintro e w4 ⟨rfl, m4, rfl⟩
                  go_wp2_with fail
                  go_ret
                  exact ⟨rfl, below_drewN HBW3.out m4⟩
              · have hRf : R = FT.2 := by rw [HRX.out, if_pos hf2]
                subst hRf
                go_wp2_with fail
                go_ret
                exact ⟨rfl, HBW3.out⟩
    · obtain rfl : i = n := by omega
      have hR0 : R = 0 := by rw [HR.out, List.drop_of_length_le (by rw [← HC.out.len]; exact Nat.le_refl _)]; rfl
      subst hR0
      go_wp2_with fail
      go_ret
      exact ⟨rfl, HW.out⟩
end Go.Proofs.Ytnidcmhfbkdioaa
