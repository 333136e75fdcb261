/-
  The contract of bridge.find. Conditions: what is read can be read.
-/
import Derived.Test.YtnidcmhfbkdioaaKe
namespace Go.Proofs.Ytnidcmhfbkdioaa
open Go.RowKit
set_option maxRecDepth 100000

theorem clo164_any (fn nm : ByteArray) (fA : Option Addr) (fl fc gb : Nat) (w : World) (hb : w.cell? ⟨gb, 0, none⟩ = some (.string nm)) (hgb : gb < w.heap.size) :
    Calls Try.prog 164 #[.agg #[.string fn, .slice fA fl fc], .pointer (some ⟨gb, 0, none⟩)] w fun e w' => e = .returned (.bool (decide (fn = nm))) ∧ Below w.heap.size w w' := by
  have hb1 : (w.alloc (.cells #[.string fn, .slice fA fl fc] 63)).cell? ⟨gb, 0, none⟩ = some (.string nm) := (((Below.refl w.heap.size w).alloc (Nat.le_refl _) _).cell (p := ⟨gb, 0, none⟩) hgb).trans hb
  have HB := Lib.hid ((Below.refl w.heap.size w).alloc (Nat.le_refl _) (.cells #[.string fn, .slice fA fl fc] 63))
  by_cases h : fn = nm
  · subst h
    rw [decide_eq_true rfl]
    clear hb
    go_enter Try.func164, Try.ntmps164
    go_wp2_with fail
    go_ret
    exact ⟨by simp, HB.out⟩
  · have h1 : (fn == nm) = false := ba_beq_ne h
    have h2 : (fn.toList == nm.toList) = false := ba_tl_ne h
    rw [decide_eq_false h]
    clear hb
    go_enter Try.func164, Try.ntmps164
    go_wp2_with fail
    go_ret
    exact ⟨by simp, HB.out⟩

theorem indexK_any (A : Option Addr) (n c B gb : Nat) (ks : List Kd) (nm : ByteArray) (w : World) (hr : Rd w B 2 A n (kdCs ks)) (hn : n = ks.length) (hc : n ≤ c) (hc2 : c ≤ 9223372036854775807) (hB : B ≤ w.heap.size) (hb : w.cell? ⟨gb, 0, none⟩ = some (.string nm)) (hgb : gb < w.heap.size) :
    Calls Try.prog 163 #[.slice A n c, .func (.func 164) #[] #[.pointer (some ⟨gb, 0, none⟩)]] w fun e w' => e = .returned (.int .i64 (findF (ks.map Kd.nm) nm)) ∧ Below w.heap.size w w' := by
  obtain ⟨R, hR⟩ : ∃ R, R = findF (ks.map Kd.nm) nm := ⟨_, rfl⟩
  rw [← hR]
  have HR := Lib.hid hR
  have HN := Lib.hid hn
  have HRD := Lib.hid hr
  have HBB := Lib.hid hB
  have HB := Lib.hid hb
  clear hr hn hR hB
  go_enter Try.func163, Try.ntmps163
  go_wp2_with fail
  go_loopg [8] n (fun g v wr => ∃ k : Nat, k ≤ n ∧ g = n - k ∧ v = .int .i64 k ∧ Hid (∀ i, i < k → ∀ x, (ks.map Kd.nm)[i]? = some x → x ≠ nm) ∧ Hid (Below w.heap.size w wr))
  case atStart => exact ⟨0, Nat.zero_le _, rfl, rfl, Lib.hid (fun i hi => by omega), Lib.hid (Below.refl _ _)⟩
  case round =>
    obtain ⟨k, hk, rfl, rfl, HNE, HW⟩ := hrel
    clear hb
    by_cases hkn : k < n
    · obtain ⟨f, hf⟩ : ∃ f, ks[k]? = some f := ⟨_, List.getElem?_eq_getElem (by have := HN.out; omega)⟩
      have hrw : Rd wr B 2 A n (kdCs ks) := HRD.out.below (HW.out.mono HBB.out)
      obtain ⟨b, o, hA, hbB, c0, c1⟩ := hrw.kd hkn hf
      subst hA
      have HF : Hid ((ks.map Kd.nm)[k]? = some f.nm) := Lib.hid (by rw [List.getElem?_map, hf]; rfl)
      have hkz : (k : Int) < n := by omega
      have hkz0 : (0 : Int) ≤ k := by omega
      have HCL := Lib.hid (clo164_any f.nm nm f.A f.n f.c gb wr ((HW.out.cell (p := ⟨gb, 0, none⟩) hgb).trans HB.out) (Nat.lt_of_lt_of_le hgb HW.out.size))
      clear hrw hf
      generalize f.nm = fn at *
      generalize f.A = fA at *
      generalize f.n = fl at *
      generalize f.c = fc at *
      go_wp2_with fail
      refine HCL.out.mono ?_
      rintro e w2 ⟨rfl, hb2⟩
      have HW2 := Lib.hid (HW.out.trans (hb2.mono HW.out.size))
      clear hb2
      by_cases hgf : fn = nm
      · rw [decide_eq_true hgf]
        subst hgf
        go_wp2_with fail
        go_ret
        rw [HR.out, findF_hit HF.out HNE.out]
        exact ⟨rfl, HW2.out⟩
      · rw [decide_eq_false hgf]
        go_wp2_with fail
        go_roundg (n - (k + 1))
        case measure => omega
        case rel => exact ⟨k + 1, by omega, rfl, by go_num, Lib.hid fun i hi x hx => by
          rcases Nat.lt_or_ge i k with h | h
          · exact HNE.out i h x hx
          · obtain rfl : i = k := by omega
            rw [HF.out] at hx
            injection hx with hx
            rw [← hx]; exact hgf, HW2⟩
    · obtain rfl : k = n := by omega
      go_wp2_with fail
      go_ret
      rw [HR.out, findF_none fun i hi x hx => HNE.out i (by rw [List.length_map, ← HN.out] at hi; exact hi) x hx]
      exact ⟨rfl, HW.out⟩

theorem clo166_any (fn nm : ByteArray) (fb fl : Int) (w : World) :
    Calls Try.prog 166 #[.agg #[.string fn, .int .i64 fb, .int .i64 fl], .string nm] w fun e w' => e = .returned (.bool (decide (fn = nm))) ∧ Below w.heap.size w w' := by
  have HB := Lib.hid ((Below.refl w.heap.size w).alloc (Nat.le_refl _) (.cells #[.string fn, .int .i64 fb, .int .i64 fl] 66))
  by_cases h : fn = nm
  · subst h
    rw [decide_eq_true rfl]
    go_enter Try.func166, Try.ntmps166
    go_wp2_with fail
    go_ret
    exact ⟨by simp, HB.out⟩
  · have h1 : (fn == nm) = false := ba_beq_ne h
    have h2 : (fn.toList == nm.toList) = false := ba_tl_ne h
    rw [decide_eq_false h]
    go_enter Try.func166, Try.ntmps166
    go_wp2_with fail
    go_ret
    exact ⟨by simp, HB.out⟩

def strV (l : List ByteArray) : List Value := l.map Value.string
theorem strV_get {l : List ByteArray} {k : Nat} {s : ByteArray} (h : l[k]? = some s) : (strV l)[k]? = some (.string s) := by simp [strV, h]

set_option maxHeartbeats 800000 in
theorem equalFN_any (A SA : Option Addr) (n c m sc B : Nat) (fds : List Fd) (ns : List ByteArray) (w : World) (hr : Rd w B 3 A n (fdCs fds)) (hn : n = fds.length) (hc2 : n ≤ 9223372036854775807) (hs : Rd w B 1 SA m (strV ns)) (hm : m = ns.length) (hB : B ≤ w.heap.size) :
    Calls Try.prog 165 #[.slice A n c, .slice SA m sc, .func (.func 166) #[] #[]] w fun e w' => e = .returned (.bool (decide (fds.map Fd.nm = ns))) ∧ Below w.heap.size w w' := by
  obtain ⟨R, hR⟩ : ∃ R, R = decide (fds.map Fd.nm = ns) := ⟨_, rfl⟩
  rw [← hR]
  have HR := Lib.hid hR
  have HN := Lib.hid hn
  have HM := Lib.hid hm
  have HRD := Lib.hid hr
  have HSD := Lib.hid hs
  have HBB := Lib.hid hB
  clear hr hn hR hB hs hm
  by_cases hnm : n = m
  · subst hnm
    go_enter Try.func165, Try.ntmps165
    go_wp2_with fail
    go_loopg [17] n (fun g v wr => ∃ k : Nat, k ≤ n ∧ g = n - k ∧ v = .int .i64 k ∧ Hid (∀ i, i < k → (fds.map Fd.nm)[i]? = ns[i]?) ∧ Hid (Below w.heap.size w wr))
    case atStart => exact ⟨0, Nat.zero_le _, rfl, rfl, Lib.hid (fun i hi => by omega), Lib.hid (Below.refl _ _)⟩
    case round =>
      obtain ⟨k, hk, rfl, rfl, HE, HW⟩ := hrel
      by_cases hkn : k < n
      · obtain ⟨f, hf⟩ : ∃ f, fds[k]? = some f := ⟨_, List.getElem?_eq_getElem (by have := HN.out; omega)⟩
        obtain ⟨s, hs⟩ : ∃ s, ns[k]? = some s := ⟨_, List.getElem?_eq_getElem (by have := HM.out; omega)⟩
        have hrw : Rd wr B 3 A n (fdCs fds) := HRD.out.below (HW.out.mono HBB.out)
        have hsw : Rd wr B 1 SA n (strV ns) := HSD.out.below (HW.out.mono HBB.out)
        obtain ⟨b, o, hA, hbB, c0, c1, c2⟩ := hrw.fd hkn hf
        obtain ⟨sb, so, hSA, hsB, d0⟩ := hsw.at1 hkn (strV_get hs)
        subst hA hSA
        have HF : Hid ((fds.map Fd.nm)[k]? = some f.nm) := Lib.hid (by rw [List.getElem?_map, hf]; rfl)
        have HS := Lib.hid hs
        have hkz : (k : Int) < n := by omega
        have hkz0 : (0 : Int) ≤ k := by omega
        have d1 : (wr.alloc (.cells #[.string f.nm, .int .i64 f.bits, .int .i64 f.low] 66)).cell? ⟨sb, so + k, none⟩ = some (.string s) := (((Below.refl wr.heap.size wr).alloc (Nat.le_refl _) _).cell (p := ⟨sb, so + k, none⟩) (Nat.lt_of_lt_of_le hsB (Nat.le_trans HBB.out HW.out.size))).trans d0
        have HCL := Lib.hid (fun wx => clo166_any f.nm s f.bits f.low wx)
        clear hrw hsw hf hs d0
        generalize f.nm = fn at *
        generalize f.bits = fb at *
        generalize f.low = fl at *
        go_wp2_with fail
        refine (HCL.out _).mono ?_
        rintro e w2 ⟨rfl, hb2⟩
        have HW2 := Lib.hid ((HW.out.alloc HW.out.size (.cells #[.string fn, .int .i64 fb, .int .i64 fl] 66)).trans (hb2.mono (by have := HW.out.size; simp; omega)))
        clear hb2
        by_cases hgf : fn = s
        · rw [decide_eq_true hgf]
          go_wp2_with fail
          go_roundg (n - (k + 1))
          case measure => omega
          case rel => exact ⟨k + 1, by omega, rfl, by go_num, Lib.hid fun i hi => by
            rcases Nat.lt_or_ge i k with h | h
            · exact HE.out i h
            · obtain rfl : i = k := by omega
              rw [HF.out, HS.out, hgf], HW2⟩
        · rw [decide_eq_false hgf]
          go_wp2_with fail
          go_ret
          have hne : fds.map Fd.nm ≠ ns := fun e => by
            have h1 := HF.out
            rw [e, HS.out] at h1
            injection h1 with h1
            exact hgf h1.symm
          rw [HR.out, decide_eq_false hne]
          exact ⟨rfl, HW2.out⟩
      · obtain rfl : k = n := by omega
        go_wp2_with fail
        go_ret
        have he : fds.map Fd.nm = ns := by
          apply List.ext_getElem?
          intro i
          by_cases hi : i < k
          · exact HE.out i hi
          · rw [List.getElem?_eq_none (by rw [List.length_map, ← HN.out]; omega), List.getElem?_eq_none (by rw [← HM.out]; omega)]
        rw [HR.out, decide_eq_true he]
        exact ⟨rfl, HW.out⟩
  · have hz : ((n : Int) != m) = true := by simp; omega
    go_enter Try.func165, Try.ntmps165
    go_wp2_with fail
    go_ret
    have hne : fds.map Fd.nm ≠ ns := fun e => by
      have h1 := congrArg List.length e
      rw [List.length_map, ← HN.out, ← HM.out] at h1
      exact hnm h1
    rw [HR.out, decide_eq_false hne]
    exact ⟨rfl, Below.refl _ _⟩
end Go.Proofs.Ytnidcmhfbkdioaa
