/-
  The contract of kind.Same. Conditions: what is read can be read.
-/
import Derived.Test.YtnidcmhfbkdioaaMa
import Derived.DeepKeys
namespace Go.Proofs.Ytnidcmhfbkdioaa
open Go.RowKit
set_option maxRecDepth 100000

instance : DecidableEq Fd := fun a b => decidable_of_iff (a.nm = b.nm ∧ a.bits = b.bits ∧ a.low = b.low) ⟨fun ⟨h1, h2, h3⟩ => by cases a; cases b; simp_all, fun h => by rw [h]; exact ⟨rfl, rfl, rfl⟩⟩
theorem eqi (d : Nat) (a b : Int) (w : World) : Sem.run Try.prog (Op.equalIn (d + 1) 3 (.int .i64 a) (.int .i64 b)) w = .ok (a == b) w := run_equalIn_int w d 3 .i64 .i64 a b Try.underlying3
theorem eqs (d : Nat) (a b : ByteArray) (w : World) : Sem.run Try.prog (Op.equalIn (d + 1) 9 (.string a) (.string b)) w = .ok (a.toList == b.toList) w := run_equalIn_string w d 9 a b Try.underlying9
theorem tl_inj {a b : ByteArray} (h : a.toList = b.toList) : a = b := by
  apply Classical.byContradiction
  intro hn
  have := ba_tl_ne hn
  rw [h] at this
  simp at this
theorem eq128 (a b c d : Int) (w : World) : Sem.run Try.prog (Op.equalIn 10000 128 (.agg #[.int .i64 a, .int .i64 b]) (.agg #[.int .i64 c, .int .i64 d])) w = .ok (decide (a = c ∧ b = d)) w := by
  have h3 := fun a b => eqi 9998 a b
  have ha : ∀ w, Sem.run Try.prog (isAgg 3) w = .ok false w := fun w => by simp [isAgg, run_underlying Try.underlying3, go_sem]
  rw [show (9998 + 1 : Nat) = 9999 from rfl] at h3
  rw [show (10000 : Nat) = 9999 + 1 from rfl]
  unfold Op.equalIn
  simp [run_underlying Try.underlying128, go_sem, ha, h3, part]
  by_cases h1 : a = c <;> by_cases h2 : b = d <;> simp [h1, h2]
theorem eq66 (f g : Fd) (w : World) : Sem.run Try.prog (Op.equalIn 10000 66 (.agg #[.string f.nm, .int .i64 f.bits, .int .i64 f.low]) (.agg #[.string g.nm, .int .i64 g.bits, .int .i64 g.low])) w = .ok (decide (f = g)) w := by
  have h3 := fun a b => eqi 9998 a b
  have h9 := fun a b => eqs 9998 a b
  have ha : ∀ w, Sem.run Try.prog (isAgg 3) w = .ok false w := fun w => by simp [isAgg, run_underlying Try.underlying3, go_sem]
  have hs : ∀ w, Sem.run Try.prog (isAgg 9) w = .ok false w := fun w => by simp [isAgg, run_underlying Try.underlying9, go_sem]
  rw [show (9998 + 1 : Nat) = 9999 from rfl] at h3 h9
  rw [show (10000 : Nat) = 9999 + 1 from rfl]
  unfold Op.equalIn
  simp [run_underlying Try.underlying66, go_sem, ha, h3, hs, h9, part]
  obtain ⟨f1, f2, f3⟩ := f
  obtain ⟨g1, g2, g3⟩ := g
  have e : decide ((⟨f1, f2, f3⟩ : Fd) = ⟨g1, g2, g3⟩) = decide (f1.toList = g1.toList ∧ f2 = g2 ∧ f3 = g3) := by
    rw [decide_eq_decide]
    exact ⟨fun e => by injection e with e1 e2 e3; rw [e1, e2, e3]; exact ⟨rfl, rfl, rfl⟩, fun ⟨e1, e2, e3⟩ => by rw [tl_inj e1, e2, e3]⟩
  rw [e]
  by_cases h1 : f1.toList = g1.toList <;> by_cases h2 : f2 = g2 <;> by_cases h3 : f3 = g3 <;> simp [h1, h2, h3]

set_option maxHeartbeats 1600000 in
theorem ksame_any {w : World} {B B' n n' c c' : Nat} {A A' : Option Addr} {l l' : List Kd} (h : KsOk w B A n c l) (h' : KsOk w B' A' n' c' l') :
    Calls Try.prog 114 #[.slice A n c, .slice A' n' c'] w fun e w' => e = .returned (.bool (decide (l.map Kd.p = l'.map Kd.p))) ∧ ∃ m, w.drewN m = w' := by
  have hcap := h.cap
  have hcap2 := h.cap2
  have hcap' := h'.cap
  have hcap2' := h'.cap2
  by_cases h0 : n = n'
  · subst h0
    have t0 : ((n : Int) != n) = false := by simp
    have HK := Lib.hid h
    have HK' := Lib.hid h'
    clear h h'
    go_enter Try.func114, Try.ntmps114
    go_wp2_with fail
    go_loopw [14] (fun i wr => ∃ k : Nat, k ≤ n ∧ i = .int .i64 k ∧ Hid ((l.map Kd.p).take k = (l'.map Kd.p).take k) ∧ ∃ m, w.drewN m = wr) (fun i _ => n - (intOf i).toNat)
    case atStart => exact ⟨0, Nat.zero_le _, rfl, Lib.hid rfl, 0, rfl⟩
    case round =>
      obtain ⟨k, hk, rfl, HT, m, rfl⟩ := hrel
      by_cases hlt : k < n
      · obtain ⟨x, hx⟩ : ∃ x, l[k]? = some x := ⟨_, List.getElem?_eq_getElem (by have := HK.out.len; omega)⟩
        obtain ⟨y, hy⟩ : ∃ y, l'[k]? = some y := ⟨_, List.getElem?_eq_getElem (by have := HK'.out.len; omega)⟩
        obtain ⟨b, o, rfl, hb, c0, c1⟩ := HK.out.rd.kd hlt hx
        obtain ⟨b', o', rfl, hb', d0, d1⟩ := HK'.out.rd.kd hlt hy
        have hxo := HK.out.ok x (List.mem_of_getElem? hx)
        have hyo := HK'.out.ok y (List.mem_of_getElem? hy)
        have HX : Hid ((l.map Kd.p)[k]? = some (x.nm, x.fds)) := Lib.hid (by rw [List.getElem?_map, hx]; rfl)
        have HY : Hid ((l'.map Kd.p)[k]? = some (y.nm, y.fds)) := Lib.hid (by rw [List.getElem?_map, hy]; rfl)
        have hkn : (k : Int) < n := by omega
        have hk0 : (0 : Int) ≤ k := by omega
        obtain ⟨xn, xA, xm, xc, xf⟩ := x
        obtain ⟨yn, yA, ym, yc, yf⟩ := y
        have HXO := Lib.hid hxo
        have HYO := Lib.hid hyo
        have hxcap := hxo.cap
        have hxcap2 := hxo.cap2
        have hycap := hyo.cap
        have hycap2 := hyo.cap2
        dsimp only at c0 c1 d0 d1 HX HY hxcap hxcap2 hycap hycap2
        clear hx hy hxo hyo
        by_cases hn : xn = yn
        · subst hn
          have t2 : (xn.toList == xn.toList) = true := by simp
          by_cases hm : xm = ym
          · subst hm
            have t3 : ((xm : Int) != xm) = false := by simp
            go_wp2_with fail
            go_quiet (fail)
            go_wp2_with fail
            go_loopw [49] (fun i wr => ∃ (j : Nat), j ≤ xm ∧ i = .int .i64 j ∧ Hid (xf.take j = yf.take j) ∧ ∃ m, w.drewN m = wr) (fun i _ => xm - (intOf i).toNat)
            case atStart => exact ⟨0, Nat.zero_le _, rfl, Lib.hid rfl, _, rfl⟩
            case round =>
              obtain ⟨j, hj, rfl, HU, m2, rfl⟩ := hrel
              by_cases hjl : j < xm
              · obtain ⟨f, hf⟩ : ∃ f, xf[j]? = some f := ⟨_, List.getElem?_eq_getElem (by have := HXO.out.len; dsimp only at this; omega)⟩
                obtain ⟨g, hg⟩ : ∃ g, yf[j]? = some g := ⟨_, List.getElem?_eq_getElem (by have := HYO.out.len; dsimp only at this; omega)⟩
                have hr1 := HXO.out.rd
                have hr2 := HYO.out.rd
                dsimp only at hr1 hr2
                obtain ⟨fb, fo, rfl, _, e0, e1, e2⟩ := hr1.fd hjl hf
                obtain ⟨gb, go, rfl, _, g0, g1, g2⟩ := hr2.fd hjl hg
                have hjn : (j : Int) < xm := by omega
                have hj0 : (0 : Int) ≤ j := by omega
                have E := eq66 f g
                obtain ⟨d, hd⟩ : ∃ d, d = decide (f = g) := ⟨_, rfl⟩
                rw [← hd] at E
                have HF := Lib.hid hf
                have HG := Lib.hid hg
                have HD := Lib.hid hd
                clear hf hg hd hr1 hr2
                generalize f.nm = f1 at *
                generalize f.bits = f2 at *
                generalize f.low = f3 at *
                generalize g.nm = g1' at *
                generalize g.bits = g2' at *
                generalize g.low = g3 at *
                go_wp2_with fail
                go_quiet (fail)
                cases d
                · go_wp2_with fail
                  go_ret
                  have hne : xf ≠ yf := ne_of_at HF.out HG.out (of_decide_eq_false HD.out.symm)
                  have hne2 : l.map Kd.p ≠ l'.map Kd.p := ne_of_at HX.out HY.out (fun e => hne (by injection e))
                  exact ⟨ret_b (by rw [decide_eq_false hne2]), _, (World.drewN_drewN _ _ _).symm⟩
                · go_wp2_with fail
                  go_roundw
                  case measure => simp [intOf]; omega
                  case rel => exact ⟨j + 1, by omega, by go_num, Lib.hid (take_eq_succ HF.out HG.out HU.out (of_decide_eq_true HD.out.symm)), _, rfl⟩
              · obtain rfl : j = xm := by omega
                have hu := HU.out
                have l1 := HXO.out.len
                have l2 := HYO.out.len
                dsimp only at l1 l2
                rw [List.take_of_length_le (by omega), List.take_of_length_le (by omega)] at hu
                subst hu
                clear l1 l2
                go_wp2_with fail
                go_roundw
                case measure => simp [intOf]; omega
                case rel => exact ⟨k + 1, by omega, by go_num, Lib.hid (take_eq_succ HX.out HY.out HT.out rfl), _, rfl⟩
          · have t3 : ((xm : Int) != ym) = true := by simp; omega
            have hne : xf ≠ yf := by
              rintro rfl
              have l1 := HXO.out.len
              have l2 := HYO.out.len
              dsimp only at l1 l2
              omega
            have HN := Lib.hid hne
            clear hm hne
            go_wp2_with fail
            go_quiet (fail)
            go_wp2_with fail
            go_ret
            have hne2 : l.map Kd.p ≠ l'.map Kd.p := ne_of_at HX.out HY.out (fun e => HN.out (by injection e))
            exact ⟨ret_b (by rw [decide_eq_false hne2]), _, (World.drewN_drewN _ _ _).symm⟩
        · have t2 : (xn.toList == yn.toList) = false := ba_tl_ne hn
          have HN := Lib.hid hn
          clear hn
          go_wp2_with fail
          go_quiet (fail)
          go_wp2_with fail
          go_ret
          have hne2 : l.map Kd.p ≠ l'.map Kd.p := ne_of_at HX.out HY.out (fun e => HN.out (by injection e))
          exact ⟨ret_b (by rw [decide_eq_false hne2]), _, (World.drewN_drewN _ _ _).symm⟩
      · obtain rfl : k = n := by omega
        go_wp2_with fail
        go_ret
        have h1 := HT.out
        rw [List.take_of_length_le (by rw [List.length_map, ← HK.out.len]; omega), List.take_of_length_le (by rw [List.length_map, ← HK'.out.len]; omega)] at h1
        exact ⟨ret_b (by simp [h1]), _, rfl⟩
  · have t0 : ((n : Int) != n') = true := by simp; omega
    have HE : Hid (l.map Kd.p ≠ l'.map Kd.p) := Lib.hid (by
      intro e
      have := congrArg List.length e
      rw [List.length_map, List.length_map, ← h.len, ← h'.len] at this
      exact h0 this)
    clear h h' h0
    go_enter Try.func114, Try.ntmps114
    go_wp2_with fail
    go_ret
    exact ⟨ret_b (by simp [HE.out]), 0, rfl⟩
end Go.Proofs.Ytnidcmhfbkdioaa
