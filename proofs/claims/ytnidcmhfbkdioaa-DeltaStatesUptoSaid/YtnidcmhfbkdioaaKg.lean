/-
  The contracts of kind.Name, field, One, Find, Check and of bridge.find; fields and kinds as data. Conditions: what is read can be read.
-/
import Derived.Test.YtnidcmhfbkdioaaKit
import Derived.Deep.LoopGhost
import Derived.Deep.CutRange
namespace Go.Proofs.Ytnidcmhfbkdioaa
open Go.RowKit
set_option maxRecDepth 100000

/-! ### Ka -/
def okc (c i : Nat) : Bool := (decide (97 ≤ c) && decide (c ≤ 122)) || (decide (0 < i) && (decide (48 ≤ c) && decide (c ≤ 57)))
def nameF (s : ByteArray) : Bool := decide (0 < s.data.toList.length) && (decide (s.data.toList.length ≤ 16) && s.data.toList.zipIdx.all fun p => okc p.1.toNat p.2)
theorem size_list (s : ByteArray) : s.data.toList.length = s.size := by
  obtain ⟨d⟩ := s
  exact Array.length_toList
theorem nameF_big {s : ByteArray} (h : 16 < s.size) : nameF s = false := by
  unfold nameF; rw [size_list, decide_eq_false (show ¬ s.size ≤ 16 by omega)]; simp
theorem nameF_zero {s : ByteArray} (h : s.size = 0) : nameF s = false := by
  unfold nameF; rw [size_list, h]; rfl
theorem nameF_all {s : ByteArray} (h0 : s.size ≠ 0) (h1 : ¬ 16 < s.size) (h : ∀ i (hi : i < s.size), okc s[i].toNat i = true) : nameF s = true := by
  unfold nameF
  rw [size_list, decide_eq_true (show 0 < s.size by omega), decide_eq_true (show s.size ≤ 16 by omega), Bool.true_and, Bool.true_and, List.all_eq_true]
  rintro ⟨c, i⟩ hc
  rw [List.mem_zipIdx_iff_getElem?] at hc
  obtain ⟨hi, e⟩ := List.getElem?_eq_some_iff.1 hc
  rw [size_list] at hi
  have := h i hi
  rw [show s[i] = c from e] at this
  exact this
theorem nameF_bad {s : ByteArray} {i : Nat} (hi : i < s.size) (h : okc s[i].toNat i = false) : nameF s = false := by
  unfold nameF
  have : (s.data.toList.zipIdx.all fun p => okc p.1.toNat p.2) = false := by
    rw [List.all_eq_false]
    refine ⟨(s[i], i), ?_, by simp [h]⟩
    rw [List.mem_zipIdx_iff_getElem?]
    exact List.getElem?_eq_some_iff.2 ⟨by rw [size_list]; exact hi, rfl⟩
  rw [this]; simp

theorem name_any (s : ByteArray) (w : World) : Calls Try.prog 208 #[.string s] w fun e w' => e = .returned (.bool (nameF s)) ∧ w = w' := by
  by_cases h0 : s.size = 0
  · obtain rfl : s = ByteArray.empty := by
      obtain ⟨d⟩ := s
      congr
      exact Array.eq_empty_of_size_eq_zero h0
    rw [nameF_zero h0]
    clear h0
    go_enter Try.func208, Try.ntmps208
    go_wp2_with fail
    go_ret
    exact ⟨rfl, rfl⟩
  · have hz : ((s.size : Int) == 0) = false := by simp only [beq_eq_false_iff_ne, ne_eq]; omega
    by_cases h16 : 16 < s.size
    · have h1 : (16 : Int) < s.size := by omega
      rw [nameF_big h16]
      go_enter Try.func208, Try.ntmps208
      go_wp2_with fail
      go_ret
      exact ⟨rfl, rfl⟩
    · have h1 : ¬ (16 : Int) < s.size := by omega
      have H16 := Lib.hid h16
      have H0 := Lib.hid h0
      obtain ⟨R, hR⟩ : ∃ R, R = nameF s := ⟨_, rfl⟩
      rw [← hR]
      have HR := Lib.hid hR
      clear hR h16 h0
      go_enter Try.func208, Try.ntmps208
      go_wp2_with fail
      go_loopg [15] s.size (fun g v wr => ∃ k : Nat, k ≤ s.size ∧ g = s.size - k ∧ v = .int .i64 k ∧ w = wr ∧ Hid (∀ i (hi : i < s.size), i < k → okc s[i].toNat i = true))
      case atStart => exact ⟨0, Nat.zero_le _, rfl, rfl, rfl, Lib.hid fun i _ h => by omega⟩
      case round =>
        obtain ⟨k, hk, rfl, rfl, rfl, HP⟩ := hrel
        by_cases hkn : k < s.size
        · obtain ⟨c, hc⟩ : ∃ c, c = s[k].toNat := ⟨_, rfl⟩
          have HC := Lib.hid hc
          go_upto_region 7 with fail
          rw [← hc]
          go_cut [39] from 21 to 39 (fun s39 wx => s39 = .bool (!okc c k) ∧ w = wx)
          case first =>
            clear hc
            have key : ∀ b : Bool, b = okc c k → okc c k = b := fun _ h => h.symm
            go_wp2_with fail
            all_goals
              go_meet
              refine ⟨?_, rfl⟩
              congr 1
              rw [Bool.eq_iff_iff]
              simp [okc]
              try omega
          case rest =>
            obtain ⟨rfl, rfl⟩ := hcut
            cases hok : okc c k
            · go_wp2_with fail
              go_ret
              rw [HR.out, nameF_bad hkn (by rw [← HC.out]; exact hok)]
              exact ⟨rfl, rfl⟩
            · go_wp2_with fail
              go_roundg (s.size - (k + 1))
              case measure => omega
              case rel => exact ⟨k + 1, by omega, rfl, by go_num, rfl, Lib.hid fun i hi hlt => by
                rcases Nat.lt_or_ge i k with h | h
                · exact HP.out i hi h
                · obtain rfl : i = k := by omega
                  rw [← HC.out]; exact hok⟩
        · obtain rfl : k = s.size := by omega
          go_wp2_with fail
          go_ret
          rw [HR.out, nameF_all H0.out H16.out fun i hi => HP.out i hi hi]
          exact ⟨rfl, rfl⟩

/-! ### Kb -/
theorem ba_beq_ne {a b : ByteArray} (h : a ≠ b) : (a == b) = false := by
  obtain ⟨a⟩ := a
  obtain ⟨b⟩ := b
  have h2 : a ≠ b := fun e => h (by rw [e])
  show (a == b) = false
  simp [h2]

theorem ba_tl_ne {a b : ByteArray} (h : a ≠ b) : (a.toList == b.toList) = false := by
  rw [beq_eq_false_iff_ne]
  intro e
  apply h
  obtain ⟨a⟩ := a
  obtain ⟨b⟩ := b
  simp only [ByteArray.toList_eq] at e
  congr 1
  exact Array.toList_inj.1 e

structure Fd where
  nm : ByteArray
  bits : Int
  low : Int
def Fd.cs (f : Fd) : List Value := [.string f.nm, .int .i64 f.bits, .int .i64 f.low]
def fdCs (l : List Fd) : List Value := l.flatMap Fd.cs
def fieldF (f : Fd) : Int := if nameF f.nm = true ∧ 1 ≤ f.bits ∧ f.bits ≤ 32 ∧ -4294967296 ≤ f.low ∧ f.low ≤ 4294967296 then 0 else 3
structure Kd where
  nm : ByteArray
  A : Option Addr
  n : Nat
  c : Nat
  fds : List Fd
def Kd.cs (k : Kd) : List Value := [.string k.nm, .slice k.A k.n k.c]
def kdCs (l : List Kd) : List Value := l.flatMap Kd.cs
structure KdOk (w : World) (B : Nat) (k : Kd) : Prop where
  rd : Rd w B 3 k.A k.n (fdCs k.fds)
  len : k.n = k.fds.length
  cap : k.n ≤ k.c
  cap2 : k.c ≤ 9223372036854775807
theorem KdOk.below {w w' : World} {B : Nat} {k : Kd} (h : KdOk w B k) (hb : Below B w w') : KdOk w' B k := ⟨h.rd.below hb, h.len, h.cap, h.cap2⟩
def Kd.p (k : Kd) : ByteArray × List Fd := (k.nm, k.fds)

theorem fdCs_get (l : List Fd) (k j : Nat) (f : Fd) (h : l[k]? = some f) (hj : j < 3) : (fdCs l)[k * 3 + j]? = (Fd.cs f)[j]? := by
  induction l generalizing k with
  | nil => simp at h
  | cons a l ih =>
    cases k with
    | zero =>
      simp at h; subst h
      simp only [fdCs, List.flatMap_cons, Nat.zero_mul, Nat.zero_add]
      rw [List.getElem?_append_left (by simp [Fd.cs]; omega)]
    | succ k =>
      simp at h
      have := ih k h
      simp only [fdCs, List.flatMap_cons] at this ⊢
      rw [List.getElem?_append_right (by simp [Fd.cs]; omega)]
      rw [show (k + 1) * 3 + j - (Fd.cs a).length = k * 3 + j by simp [Fd.cs]; omega]
      exact this
theorem kdCs_get (l : List Kd) (k j : Nat) (f : Kd) (h : l[k]? = some f) (hj : j < 2) : (kdCs l)[k * 2 + j]? = (Kd.cs f)[j]? := by
  induction l generalizing k with
  | nil => simp at h
  | cons a l ih =>
    cases k with
    | zero =>
      simp at h; subst h
      simp only [kdCs, List.flatMap_cons, Nat.zero_mul, Nat.zero_add]
      rw [List.getElem?_append_left (by simp [Kd.cs]; omega)]
    | succ k =>
      simp at h
      have := ih k h
      simp only [kdCs, List.flatMap_cons] at this ⊢
      rw [List.getElem?_append_right (by simp [Kd.cs]; omega)]
      rw [show (k + 1) * 2 + j - (Kd.cs a).length = k * 2 + j by simp [Kd.cs]; omega]
      exact this
/-- The cells of the element k. -/
theorem Rd.fd {w : World} {B n : Nat} {A : Option Addr} {l : List Fd} {k : Nat} {f : Fd} (h : Rd w B 3 A n (fdCs l)) (hk : k < n) (hf : l[k]? = some f) :
    ∃ b o, A = some ⟨b, o, none⟩ ∧ b < B ∧ w.cell? ⟨b, o + k * 3, none⟩ = some (.string f.nm) ∧ w.cell? ⟨b, o + k * 3 + 1, none⟩ = some (.int .i64 f.bits) ∧ w.cell? ⟨b, o + k * 3 + 2, none⟩ = some (.int .i64 f.low) := by
  obtain ⟨b, o, e, hb, hc⟩ := h.2 (by omega)
  exact ⟨b, o, e, hb, hc (k * 3) _ ((fdCs_get l k 0 f hf (by omega)).trans rfl), by rw [Nat.add_assoc]; exact hc (k * 3 + 1) _ ((fdCs_get l k 1 f hf (by omega)).trans rfl), by rw [Nat.add_assoc]; exact hc (k * 3 + 2) _ ((fdCs_get l k 2 f hf (by omega)).trans rfl)⟩
theorem Rd.kd {w : World} {B n : Nat} {A : Option Addr} {l : List Kd} {k : Nat} {f : Kd} (h : Rd w B 2 A n (kdCs l)) (hk : k < n) (hf : l[k]? = some f) :
    ∃ b o, A = some ⟨b, o, none⟩ ∧ b < B ∧ w.cell? ⟨b, o + k * 2, none⟩ = some (.string f.nm) ∧ w.cell? ⟨b, o + k * 2 + 1, none⟩ = some (.slice f.A f.n f.c) := by
  obtain ⟨b, o, e, hb, hc⟩ := h.2 (by omega)
  exact ⟨b, o, e, hb, hc (k * 2) _ ((kdCs_get l k 0 f hf (by omega)).trans rfl), by rw [Nat.add_assoc]; exact hc (k * 2 + 1) _ ((kdCs_get l k 1 f hf (by omega)).trans rfl)⟩

theorem field_any (f : Fd) (w : World) : Calls Try.prog 209 #[.agg #[.string f.nm, .int .i64 f.bits, .int .i64 f.low]] w fun e w' => e = .returned (.int .i64 (fieldF f)) ∧ Below w.heap.size w w' := by
  have HNM := Lib.hid (fun wx => name_any f.nm wx)
  obtain ⟨R, hR⟩ : ∃ R, R = fieldF f := ⟨_, rfl⟩
  have hR2 := hR
  unfold fieldF at hR
  rw [← hR2]
  generalize f.nm = nm at *
  generalize f.bits = bits at *
  generalize f.low = low at *
  have HB := Lib.hid ((Below.refl w.heap.size w).alloc (Nat.le_refl _) (.cells #[.string nm, .int .i64 bits, .int .i64 low] 66))
  have HR := Lib.hid hR
  clear hR hR2
  go_enter Try.func209, Try.ntmps209
  go_wp2_with fail
  refine (HNM.out _).mono ?_
  rintro e w1 ⟨rfl, rfl⟩
  cases hn : nameF nm
  · go_wp2_with fail
    go_ret
    rw [HR.out, if_neg (by simp [hn])]
    exact ⟨rfl, HB.out⟩
  · go_wp2_with fail
    all_goals
      go_ret
      rw [HR.out]
      first
        | (rw [if_pos ⟨hn, by omega, by omega, by omega, by omega⟩]; exact ⟨rfl, HB.out⟩)
        | (rw [if_neg (fun h => by omega)]; exact ⟨rfl, HB.out⟩)

/-! ### Kc -/
def scanF : List Fd → List Fd → Int
  | _, [] => 0
  | seen, f :: r => if fieldF f ≠ 0 then fieldF f else if seen.any (fun o => decide (o.nm = f.nm)) then 5 else scanF (seen ++ [f]) r
def oneF (nm : ByteArray) (fds : List Fd) : Int := if nameF nm = false then 3 else if 8 < fds.length then 2 else scanF [] fds

theorem scanF_at {seen r : List Fd} {f : Fd} : scanF seen (f :: r) = if fieldF f ≠ 0 then fieldF f else if seen.any (fun o => decide (o.nm = f.nm)) then 5 else scanF (seen ++ [f]) r := rfl

set_option maxHeartbeats 1600000 in
theorem one_any (nm : ByteArray) (A : Option Addr) (n c B : Nat) (fds : List Fd) (w : World) (hr : Rd w B 3 A n (fdCs fds)) (hn : n = fds.length) (hc : n ≤ c) (_hc2 : c ≤ 9223372036854775807) (hB : B ≤ w.heap.size) :
    Calls Try.prog 161 #[.agg #[.string nm, .slice A n c]] w fun e w' => e = .returned (.int .i64 (oneF nm fds)) ∧ Below w.heap.size w w' := by
  obtain ⟨R, hR⟩ : ∃ R, R = oneF nm fds := ⟨_, rfl⟩
  rw [← hR]
  have HNM := Lib.hid (fun wx => name_any nm wx)
  have HR := Lib.hid hR
  have HN := Lib.hid hn
  have HRD := Lib.hid hr
  have HBB := Lib.hid hB
  obtain ⟨w1, hw1⟩ : ∃ w1, w1 = w.alloc (.cells #[.string nm, .slice A n c] 63) := ⟨_, rfl⟩
  have hk1 : Bk w1 w.heap.size 63 #[.string nm, .slice A n c] := by rw [hw1]; exact Bk.new _ _ _
  have hb1 : Below w.heap.size w w1 := by rw [hw1]; exact (Below.refl _ w).alloc (Nat.le_refl _) _
  have hs1 : w1.heap.size = w.heap.size + 1 := by rw [hw1]; simp
  have HK1 := Lib.hid hk1
  have HB1 := Lib.hid hb1
  have HS1 := Lib.hid hs1
  have k0 : w1.cell? ⟨w.heap.size, 0, none⟩ = some (.string nm) := hk1.cell 0
  have k1 : w1.cell? ⟨w.heap.size, 1, none⟩ = some (.slice A n c) := hk1.cell 1
  clear hr hn hR hk1 hb1 hB hs1
  go_enter Try.func161, Try.ntmps161
  go_wp2_with fail
  rw [← hw1]
  clear hw1
  refine (HNM.out _).mono ?_
  rintro e w2 ⟨rfl, rfl⟩
  cases hnm : nameF nm
  · go_wp2_with fail
    go_ret
    rw [HR.out, oneF, if_pos hnm]
    exact ⟨rfl, HB1.out⟩
  · by_cases h8 : 8 < n
    · have h8z : (8 : Int) < n := by omega
      go_wp2_with fail
      go_ret
      rw [HR.out, oneF, if_neg (by simp [hnm]), if_pos (by rw [← HN.out]; exact h8)]
      exact ⟨rfl, HB1.out⟩
    · have h8z : ¬ (8 : Int) < n := by omega
      have hR2 : Hid (R = scanF [] fds) := Lib.hid (by rw [HR.out, oneF, if_neg (by simp [hnm]), if_neg (by rw [← HN.out]; exact h8)])
      clear HR HNM
      go_wp2_with fail
      go_loopg [19] n (fun g v wr => ∃ k : Nat, k ≤ n ∧ g = n - k ∧ v = .int .i64 k ∧ Hid (R = scanF (fds.take k) (fds.drop k)) ∧ Hid (Below w1.heap.size w1 wr))
      case atStart => exact ⟨0, Nat.zero_le _, rfl, rfl, Lib.hid (by rw [hR2.out]; rfl), Lib.hid (Below.refl _ _)⟩
      case round =>
        obtain ⟨k, hk, rfl, rfl, HRK, HW⟩ := hrel
        obtain ⟨wk, rfl⟩ : ∃ wk, wk = wr := ⟨wr, rfl⟩
        clear hR2 k0 k1
        have hkr := HK1.out.below HW.out (by have := HS1.out; omega)
        have k0 : wk.cell? ⟨w.heap.size, 0, none⟩ = some (.string nm) := hkr.cell 0
        have k1 : wk.cell? ⟨w.heap.size, 1, none⟩ = some (.slice A n c) := hkr.cell 1
        clear hkr
        by_cases hkn : k < n
        · obtain ⟨f, hf⟩ : ∃ f, fds[k]? = some f := ⟨_, List.getElem?_eq_getElem (by have := HN.out; omega)⟩
          have hrw : Rd wk B 3 A n (fdCs fds) := (HRD.out.below (HB1.out.mono HBB.out)).below (HW.out.mono (by have := HS1.out; have := HBB.out; omega))
          obtain ⟨b, o, hA, hbB, c0, c1, c2⟩ := hrw.fd hkn hf
          subst hA
          have HRW := Lib.hid hrw
          have hdr : fds.drop k = f :: fds.drop (k + 1) := by
            rw [List.drop_eq_getElem_cons (by have := HN.out; omega)]
            congr 1
            exact (List.getElem?_eq_some_iff.1 hf).2
          have htk : fds.take (k + 1) = fds.take k ++ [f] := by rw [List.take_add_one, hf]; rfl
          have HRK2 : Hid (R = if fieldF f ≠ 0 then fieldF f else if (fds.take k).any (fun o => decide (o.nm = f.nm)) then 5 else scanF (fds.take (k + 1)) (fds.drop (k + 1))) := Lib.hid (by rw [HRK.out, hdr, scanF_at, htk])
          have hkz : (k : Int) < n := by omega
          have hkz0 : (0 : Int) ≤ k := by omega
          have HFA := Lib.hid (fun wx => field_any f wx)
          have hlt : w.heap.size < wk.heap.size := by have := HW.out.size; have := HS1.out; omega
          have HF := Lib.hid hf
          clear hrw hdr htk HRK hf
          generalize hnm' : f.nm = fn at *
          generalize f.bits = fb at *
          generalize f.low = fl at *
          go_wp2_with fail
          refine (HFA.out _).mono ?_
          rintro e w3 ⟨rfl, hb3⟩
          obtain ⟨v, hv⟩ : ∃ v, v = fieldF f := ⟨_, rfl⟩
          rw [← hv] at HRK2 ⊢
          clear hv HFA
          have hkv : Bk w3 wk.heap.size 66 #[.string fn, .int .i64 fb, .int .i64 fl] := (Bk.new wk 66 #[.string fn, .int .i64 fb, .int .i64 fl]).below hb3 (by simp)
          have hw3 : Below w1.heap.size w1 w3 := HW.out.trans (((Below.refl wk.heap.size wk).alloc (Nat.le_refl _) (.cells #[.string fn, .int .i64 fb, .int .i64 fl] 66) |>.trans (hb3.mono (by simp))).mono HW.out.size)
          have hs3 : wk.heap.size < w3.heap.size := hkv.lt
          have HKV := Lib.hid hkv
          have HW3 := Lib.hid hw3
          have HFIN : Hid (∀ wx, Below w3.heap.size w3 wx → Below w.heap.size w wx) := Lib.hid fun wx hx => (HB1.out.trans (hw3.mono (by have := HS1.out; omega))).trans (hx.mono (by have := HW.out.size; have := HS1.out; omega))
          have HB3 := Lib.hid (hb3.mono (B' := wk.heap.size) (by simp))
          have HBW : Hid (B ≤ wk.heap.size) := Lib.hid (by have := HW.out.size; have := HS1.out; have := HBB.out; omega)
          clear hb3 hkv hw3
          by_cases hv0 : v = 0
          · subst hv0
            have HRK3 : Hid (R = if (fds.take k).any (fun o => decide (o.nm = fn)) then 5 else scanF (fds.take (k + 1)) (fds.drop (k + 1))) := Lib.hid (by rw [HRK2.out, if_neg (by simp)])
            have hk1' : w3.cell? ⟨w.heap.size, 1, none⟩ = some (.slice (some ⟨b, o, none⟩) n c) := (HK1.out.below HW3.out (by have := HS1.out; omega)).cell 1
            clear HRK2 c0 c1 c2 k0 k1
            go_wp2_with fail
            go_loopg [34] k (fun g v wi => ∃ j : Nat, j ≤ k ∧ g = k - j ∧ v = .int .i64 j ∧ Hid (∀ i, i < j → ∀ x, fds[i]? = some x → x.nm ≠ fn) ∧ Hid (Below w3.heap.size w3 wi))
            case atStart => exact ⟨0, Nat.zero_le _, rfl, rfl, Lib.hid (fun i hi => by omega), Lib.hid (Below.refl _ _)⟩
            case round =>
              obtain ⟨j, hj, rfl, rfl, HNE, HI⟩ := hrel
              obtain ⟨wi, rfl⟩ : ∃ wi, wi = wr := ⟨wr, rfl⟩
              have hkv : Bk wi wk.heap.size 66 #[.string fn, .int .i64 fb, .int .i64 fl] := HKV.out.below HI.out hs3
              have HKVI := Lib.hid hkv
              clear hkv
              by_cases hjk : j < k
              · obtain ⟨g, hg⟩ : ∃ g, fds[j]? = some g := ⟨_, List.getElem?_eq_getElem (by have := HN.out; omega)⟩
                have hri : Rd wi B 3 (some ⟨b, o, none⟩) n (fdCs fds) := HRW.out.below (((((Below.refl wk.heap.size wk).alloc (Nat.le_refl _) (.cells #[.string fn, .int .i64 fb, .int .i64 fl] 66)).trans HB3.out).trans (HI.out.mono (by omega))).mono HBW.out)
                obtain ⟨b', o', hA', _, d0, d1, d2⟩ := hri.fd (show j < n by omega) hg
                obtain ⟨rfl, rfl⟩ : b' = b ∧ o' = o := by injection hA' with hA'; injection hA' with h1 h2; exact ⟨h1.symm, h2.symm⟩
                have hjz : (j : Int) < k := by omega
                have HG := Lib.hid hg
                clear hri hg hA'
                generalize hgn : g.nm = gn at *
                generalize g.bits = gb at *
                generalize g.low = gl at *
                have HGN := Lib.hid hgn
                clear hgn
                have v1 : (wi.alloc (.cells #[.string gn, .int .i64 gb, .int .i64 gl] 66)).cell? ⟨wk.heap.size, 0, none⟩ = some (.string fn) := (HKVI.out.alloc _).cell 0
                by_cases hgf : gn = fn
                · subst hgf
                  go_wp2_with fail
                  go_ret
                  have hany : (fds.take k).any (fun o => decide (o.nm = gn)) = true := by
                    rw [List.any_eq_true]
                    refine ⟨g, List.mem_of_getElem? (i := j) ?_, by simp [HGN.out]⟩
                    rw [List.getElem?_take, if_pos hjk]; exact HG.out
                  rw [HRK3.out, if_pos hany]
                  exact ⟨rfl, HFIN.out _ (HI.out.alloc HI.out.size _)⟩
                · have hgb : (gn == fn) = false := ba_beq_ne hgf
                  have hgl : (gn.toList == fn.toList) = false := ba_tl_ne hgf
                  have hgd : decide (gn = fn) = false := decide_eq_false hgf
                  go_wp2_with fail
                  go_roundg (k - (j + 1))
                  case measure => omega
                  case rel => exact ⟨j + 1, by omega, rfl, by go_num, Lib.hid fun i hi x hx => by
                    rcases Nat.lt_or_ge i j with h | h
                    · exact HNE.out i h x hx
                    · obtain rfl : i = j := by omega
                      rw [HG.out] at hx
                      injection hx with hx
                      rw [← hx, HGN.out]; exact hgf, Lib.hid (HI.out.alloc HI.out.size _)⟩
              · obtain rfl : j = k := by omega
                go_wp2_with fail
                go_roundg (n - (j + 1))
                case measure => omega
                case rel =>
                  have hany : (fds.take j).any (fun o => decide (o.nm = fn)) = false := by
                    rw [List.any_eq_false]
                    intro x hx
                    obtain ⟨i, hi⟩ := List.mem_iff_getElem?.1 hx
                    rw [List.getElem?_take] at hi
                    split at hi
                    · rename_i hlt
                      simp [HNE.out i hlt x hi]
                    · cases hi
                  exact ⟨j + 1, by omega, rfl, by go_num, Lib.hid (by rw [HRK3.out, if_neg (by rw [hany]; simp)]), Lib.hid (HW3.out.trans (HI.out.mono (by have := HW.out.size; omega)))⟩
          · have hvb : (v != 0) = true := by simp [hv0]
            go_wp2_with fail
            go_ret
            rw [HRK2.out, if_pos hv0]
            exact ⟨rfl, HFIN.out _ (Below.refl _ _)⟩
        · obtain rfl : k = n := by omega
          go_wp2_with fail
          go_ret
          rw [HRK.out, List.drop_eq_nil_of_le (by rw [← HN.out]; exact Nat.le_refl _)]
          exact ⟨rfl, HB1.out.trans (HW.out.mono (by have := HS1.out; omega))⟩

/-! ### Kd -/
/-- The index of the first name that is equal, or -1. -/
def findF (l : List ByteArray) (nm : ByteArray) : Int := match l.findIdx? (fun x => decide (x = nm)) with
  | some i => i
  | none => -1
theorem findF_hit {l : List ByteArray} {nm : ByteArray} {k : Nat} (hk : l[k]? = some nm) (h : ∀ i, i < k → ∀ x, l[i]? = some x → x ≠ nm) : findF l nm = k := by
  unfold findF
  have : l.findIdx? (fun x => decide (x = nm)) = some k := by
    rw [List.findIdx?_eq_some_iff_getElem]
    obtain ⟨h1, h2⟩ := List.getElem?_eq_some_iff.1 hk
    exact ⟨h1, by simp [h2], fun j hj => by simpa using h j hj _ (List.getElem?_eq_getElem (by omega))⟩
  rw [this]
theorem findF_none {l : List ByteArray} {nm : ByteArray} (h : ∀ i, i < l.length → ∀ x, l[i]? = some x → x ≠ nm) : findF l nm = -1 := by
  unfold findF
  have : l.findIdx? (fun x => decide (x = nm)) = none := by
    rw [List.findIdx?_eq_none_iff]
    intro x hx
    obtain ⟨i, hi⟩ := List.mem_iff_getElem?.1 hx
    exact decide_eq_false (h i (List.getElem?_eq_some_iff.1 hi).1 x hi)
  rw [this]
theorem findF_nonneg {l : List ByteArray} {nm : ByteArray} : 0 ≤ findF l nm ↔ l.any (fun x => decide (x = nm)) = true := by
  unfold findF
  cases h : l.findIdx? (fun x => decide (x = nm)) with
  | some i =>
    have := (List.findIdx?_eq_some_iff_getElem.1 h)
    obtain ⟨h1, h2, _⟩ := this
    refine ⟨fun _ => List.any_eq_true.2 ⟨l[i], List.getElem_mem h1, h2⟩, fun _ => Int.natCast_nonneg i⟩
  | none =>
    rw [List.findIdx?_eq_none_iff] at h
    refine ⟨fun h2 => by simp at h2, fun h2 => ?_⟩
    obtain ⟨x, hx, hd⟩ := List.any_eq_true.1 h2
    rw [h x hx] at hd; cases hd

set_option maxHeartbeats 800000 in
theorem find_any (A : Option Addr) (n c B : Nat) (ks : List Kd) (nm : ByteArray) (w : World) (hr : Rd w B 2 A n (kdCs ks)) (hn : n = ks.length) (hc : n ≤ c) (hc2 : c ≤ 9223372036854775807) (hB : B ≤ w.heap.size) :
    Calls Try.prog 162 #[.slice A n c, .string nm] w fun e w' => e = .returned (.int .i64 (findF (ks.map Kd.nm) nm)) ∧ Below w.heap.size w w' := by
  obtain ⟨R, hR⟩ : ∃ R, R = findF (ks.map Kd.nm) nm := ⟨_, rfl⟩
  rw [← hR]
  have HR := Lib.hid hR
  have HN := Lib.hid hn
  have HRD := Lib.hid hr
  have HBB := Lib.hid hB
  clear hr hn hR hB
  go_enter Try.func162, Try.ntmps162
  go_wp2_with fail
  go_loopg [9] n (fun g v wr => ∃ k : Nat, k ≤ n ∧ g = n - k ∧ v = .int .i64 k ∧ Hid (∀ i, i < k → ∀ x, (ks.map Kd.nm)[i]? = some x → x ≠ nm) ∧ Hid (Below w.heap.size w wr))
  case atStart => exact ⟨0, Nat.zero_le _, rfl, rfl, Lib.hid (fun i hi => by omega), Lib.hid (Below.refl _ _)⟩
  case round =>
    obtain ⟨k, hk, rfl, rfl, HNE, HW⟩ := hrel
    by_cases hkn : k < n
    · obtain ⟨f, hf⟩ : ∃ f, ks[k]? = some f := ⟨_, List.getElem?_eq_getElem (by have := HN.out; omega)⟩
      have hrw : Rd wr B 2 A n (kdCs ks) := HRD.out.below (HW.out.mono HBB.out)
      obtain ⟨b, o, hA, hbB, c0, c1⟩ := hrw.kd hkn hf
      subst hA
      have HF : Hid ((ks.map Kd.nm)[k]? = some f.nm) := Lib.hid (by rw [List.getElem?_map, hf]; rfl)
      have hkz : (k : Int) < n := by omega
      have hkz0 : (0 : Int) ≤ k := by omega
      clear hrw hf
      generalize f.nm = fn at *
      generalize f.A = fA at *
      generalize f.n = fl at *
      generalize f.c = fc at *
      by_cases hgf : fn = nm
      · subst hgf
        go_wp2_with fail
        go_ret
        rw [HR.out, findF_hit HF.out HNE.out]
        exact ⟨rfl, HW.out.alloc HW.out.size _⟩
      · have hgb : (fn == nm) = false := ba_beq_ne hgf
        have hgl : (fn.toList == nm.toList) = false := ba_tl_ne hgf
        go_wp2_with fail
        go_roundg (n - (k + 1))
        case measure => omega
        case rel => exact ⟨k + 1, by omega, rfl, by go_num, Lib.hid fun i hi x hx => by
          rcases Nat.lt_or_ge i k with h | h
          · exact HNE.out i h x hx
          · obtain rfl : i = k := by omega
            rw [HF.out] at hx
            injection hx with hx
            rw [← hx]; exact hgf, Lib.hid (HW.out.alloc HW.out.size _)⟩
    · obtain rfl : k = n := by omega
      go_wp2_with fail
      go_ret
      rw [HR.out, findF_none fun i hi x hx => HNE.out i (by rw [List.length_map, ← HN.out] at hi; exact hi) x hx]
      exact ⟨rfl, HW.out⟩

/-! ### Ke -/
def chkF : List (ByteArray × List Fd) → List (ByteArray × List Fd) → Int
  | _, [] => 0
  | seen, k :: r => if oneF k.1 k.2 ≠ 0 then oneF k.1 k.2 else if (seen.map (·.1)).any (fun o => decide (o = k.1)) then 5 else chkF (seen ++ [k]) r
theorem chkF_at {seen r : List (ByteArray × List Fd)} {k : ByteArray × List Fd} : chkF seen (k :: r) = if oneF k.1 k.2 ≠ 0 then oneF k.1 k.2 else if (seen.map (·.1)).any (fun o => decide (o = k.1)) then 5 else chkF (seen ++ [k]) r := rfl
def checkF (l : List (ByteArray × List Fd)) : Int := if 16 < l.length then 2 else chkF [] l
theorem kdCs_length (l : List Kd) : (kdCs l).length = l.length * 2 := by
  induction l with
  | nil => rfl
  | cons a l ih => simp only [kdCs, List.flatMap_cons] at ih ⊢; rw [List.length_append, ih]; simp [Kd.cs]; omega
theorem kdCs_take (l : List Kd) (k : Nat) : kdCs (l.take k) = (kdCs l).take (k * 2) := by
  induction l generalizing k with
  | nil => simp [kdCs]
  | cons a l ih =>
    cases k with
    | zero => simp [kdCs]
    | succ k =>
      have := ih k
      simp only [kdCs, List.take_succ_cons, List.flatMap_cons] at this ⊢
      rw [this, show (k + 1) * 2 = (Kd.cs a).length + k * 2 by simp [Kd.cs]; omega, List.take_length_add_append]
theorem Rd.takeK {w : World} {B n k : Nat} {A : Option Addr} {l : List Kd} (h : Rd w B 2 A n (kdCs l)) (hk : k ≤ n) (hn : n = l.length) : Rd w B 2 A k (kdCs (l.take k)) := by
  refine ⟨by rw [kdCs_length, List.length_take]; omega, fun h0 => ?_⟩
  obtain ⟨b, o, e, hb, hc⟩ := h.2 (by omega)
  refine ⟨b, o, e, hb, fun j u hu => hc j u ?_⟩
  rw [kdCs_take, List.getElem?_take] at hu
  split at hu
  · exact hu
  · cases hu

set_option maxHeartbeats 1600000 in
theorem check_any (A : Option Addr) (n c B : Nat) (ks : List Kd) (w : World) (hr : Rd w B 2 A n (kdCs ks)) (hn : n = ks.length) (hc : n ≤ c) (hc2 : c ≤ 9223372036854775807) (hks : ∀ k ∈ ks, KdOk w B k) (hB : B ≤ w.heap.size) :
    Calls Try.prog 94 #[.slice A n c] w fun e w' => e = .returned (.int .i64 (checkF (ks.map Kd.p))) ∧ Below w.heap.size w w' := by
  obtain ⟨R, hR⟩ : ∃ R, R = checkF (ks.map Kd.p) := ⟨_, rfl⟩
  rw [← hR]
  have HN := Lib.hid hn
  have HRD := Lib.hid hr
  have HBB := Lib.hid hB
  have HKS := Lib.hid hks
  by_cases h16 : 16 < n
  · have h16z : (16 : Int) < n := by omega
    have HR : Hid (R = 2) := Lib.hid (by rw [hR, checkF, if_pos (by rw [List.length_map, ← hn]; exact h16)])
    clear hr hn hR hB hks h16
    go_enter Try.func94, Try.ntmps94
    go_wp2_with fail
    go_ret
    rw [HR.out]
    exact ⟨rfl, Below.refl _ _⟩
  · have h16z : ¬ (16 : Int) < n := by omega
    have HR : Hid (R = chkF [] (ks.map Kd.p)) := Lib.hid (by rw [hR, checkF, if_neg (by rw [List.length_map, ← hn]; exact h16)])
    clear hr hn hR hB hks
    go_enter Try.func94, Try.ntmps94
    go_wp2_with fail
    go_loopg [11] n (fun g v wr => ∃ k : Nat, k ≤ n ∧ g = n - k ∧ v = .int .i64 k ∧ Hid (R = chkF ((ks.map Kd.p).take k) ((ks.map Kd.p).drop k)) ∧ Hid (Below w.heap.size w wr))
    case atStart => exact ⟨0, Nat.zero_le _, rfl, rfl, Lib.hid (by rw [HR.out]; rfl), Lib.hid (Below.refl _ _)⟩
    case round =>
      obtain ⟨k, hk, rfl, rfl, HRK, HW⟩ := hrel
      clear HR
      by_cases hkn : k < n
      · obtain ⟨f, hf⟩ : ∃ f, ks[k]? = some f := ⟨_, List.getElem?_eq_getElem (by have := HN.out; omega)⟩
        have hrw : Rd wr B 2 A n (kdCs ks) := HRD.out.below (HW.out.mono HBB.out)
        obtain ⟨b, o, hA, hbB, c0, c1⟩ := hrw.kd hkn hf
        subst hA
        have hfp : (ks.map Kd.p)[k]? = some f.p := by rw [List.getElem?_map, hf]; rfl
        have hdr : (ks.map Kd.p).drop k = f.p :: (ks.map Kd.p).drop (k + 1) := by
          rw [List.drop_eq_getElem_cons (by rw [List.length_map]; have := HN.out; omega)]
          congr 1
          exact (List.getElem?_eq_some_iff.1 hfp).2
        have htk : (ks.map Kd.p).take (k + 1) = (ks.map Kd.p).take k ++ [f.p] := by rw [List.take_add_one, hfp]; rfl
        have HRK2 : Hid (R = if oneF f.nm f.fds ≠ 0 then oneF f.nm f.fds else if (((ks.map Kd.p).take k).map (·.1)).any (fun o => decide (o = f.nm)) then 5 else chkF ((ks.map Kd.p).take (k + 1)) ((ks.map Kd.p).drop (k + 1))) := Lib.hid (by rw [HRK.out, hdr, chkF_at, htk]; rfl)
        have hfk := (HKS.out f (List.mem_of_getElem? hf)).below (HW.out.mono HBB.out)
        have hw4 := (Below.refl wr.heap.size wr).alloc (Nat.le_refl _) (.cells #[.string f.nm, .slice f.A f.n f.c] 63)
        have hone := one_any f.nm f.A f.n f.c B f.fds (wr.alloc (.cells #[.string f.nm, .slice f.A f.n f.c] 63)) ((hfk.below (hw4.mono (Nat.le_trans HBB.out HW.out.size))).rd) hfk.len hfk.cap hfk.cap2 (by have := HW.out.size; have := HBB.out; simp; omega)
        have HONE := Lib.hid hone
        have hkz : (k : Int) < n := by omega
        have hkz0 : (0 : Int) ≤ k := by omega
        have hkc : (k : Int) ≤ c := by omega
        obtain ⟨v, hv⟩ : ∃ v, v = oneF f.nm f.fds := ⟨_, rfl⟩
        rw [← hv] at HRK2 HONE
        clear hrw hdr htk hfp hfk hw4 hone hv HRK hf
        generalize f.nm = fn at *
        generalize f.A = fA at *
        generalize f.n = fl at *
        generalize f.c = fc at *
        go_wp2_with fail
        refine HONE.out.mono ?_
        rintro e w3 ⟨rfl, hb3⟩
        have hk3 : Bk w3 wr.heap.size 63 #[.string fn, .slice fA fl fc] := (Bk.new wr 63 #[.string fn, .slice fA fl fc]).below hb3 (by simp)
        have hb4 : Below w.heap.size w w3 := (HW.out.alloc HW.out.size (.cells #[.string fn, .slice fA fl fc] 63)).trans (hb3.mono (by have := HW.out.size; simp; omega))
        have s3 : w3.drew.cell? ⟨wr.heap.size, 0, none⟩ = some (.string fn) := hk3.cell 0
        have HB4 := Lib.hid hb4
        have HK3 := Lib.hid hk3
        have hb4d : Below w.heap.size w w3.drew := hb4.drew
        have hfi := find_any (some ⟨b, o, none⟩) k c B (ks.take k) fn w3.drew ((HRD.out.below (hb4d.mono HBB.out)).takeK (by omega) HN.out) (by rw [List.length_take]; have := HN.out; omega) (by omega) hc2 (Nat.le_trans HBB.out hb4d.size)
        have HFI := Lib.hid hfi
        clear hb3 hb4 hk3 hb4d hfi c0 c1
        by_cases hv0 : v = 0
        · subst hv0
          have HRK3 : Hid (R = if (((ks.map Kd.p).take k).map (·.1)).any (fun o => decide (o = fn)) then 5 else chkF ((ks.map Kd.p).take (k + 1)) ((ks.map Kd.p).drop (k + 1))) := Lib.hid (by rw [HRK2.out, if_neg (by simp)])
          have hnms : ((ks.map Kd.p).take k).map (·.1) = (ks.take k).map Kd.nm := by rw [← List.map_take, List.map_map]; rfl
          rw [hnms] at HRK3
          have HNN := Lib.hid (findF_nonneg (l := (ks.take k).map Kd.nm) (nm := fn))
          clear HRK2 hnms
          generalize hff : findF ((ks.take k).map Kd.nm) fn = ff at *
          go_wp2_with fail
          go_region_held3 (fun w' => w'.cell? ⟨wr.heap.size, 0, none⟩ = some (.string fn)) (first | (with_reducible exact s3) | (with_reducible exact s4) | go_keep)
            (first
              | (go_at_call 162
                 (with_reducible refine HFI.out.mono ?_)
                 rintro e w4 ⟨rfl, hb5⟩
                 have s4 : w4.cell? ⟨wr.heap.size, 0, none⟩ = some (.string fn) := (hb5.cell (p := ⟨wr.heap.size, 0, none⟩) HK3.out.lt).trans s3
                 have HB5 := Lib.hid hb5
                 clear hb5))
          have hb6 : Below w.heap.size w w4 := HB4.out.drew.trans (HB5.out.mono HB4.out.size)
          by_cases hff0 : 0 ≤ ff
          · go_wp2_with fail
            go_ret
            rw [HRK3.out, if_pos (HNN.out.1 hff0)]
            exact ⟨rfl, hb6⟩
          · have hffz : ff < 0 := by omega
            go_wp2_with fail
            go_roundg (n - (k + 1))
            case measure => omega
            case rel => exact ⟨k + 1, by omega, rfl, by go_num, Lib.hid (by rw [HRK3.out, if_neg (fun h => by have := HNN.out.2 h; omega)]), Lib.hid hb6⟩
        · have hvb : (v != 0) = true := by simp [hv0]
          go_wp2_with fail
          go_ret
          rw [HRK2.out, if_pos hv0]
          exact ⟨rfl, HB4.out⟩
      · obtain rfl : k = n := by omega
        go_wp2_with fail
        go_ret
        rw [HRK.out, List.drop_eq_nil_of_le (by rw [List.length_map, ← HN.out]; exact Nat.le_refl _)]
        exact ⟨rfl, HW.out⟩

/-! ### Kf -/
theorem clo164_any (fn nm : ByteArray) (fA : Option Addr) (fl fc gb : Nat) (w : World) (hb : w.cell? ⟨gb, 0, none⟩ = some (.string nm)) (hgb : gb < w.heap.size) :
    Calls Try.prog 164 #[.agg #[.string fn, .slice fA fl fc], .pointer (some ⟨gb, 0, none⟩)] w fun e w' => e = .returned (.bool (decide (fn = nm))) ∧ Below w.heap.size w w' := by
  have hb1 : (w.alloc (.cells #[.string fn, .slice fA fl fc] 63)).cell? ⟨gb, 0, none⟩ = some (.string nm) := (((Below.refl w.heap.size w).alloc (Nat.le_refl _) _).cell (p := ⟨gb, 0, none⟩) hgb).trans hb
  have HB := Lib.hid ((Below.refl w.heap.size w).alloc (Nat.le_refl _) (.cells #[.string fn, .slice fA fl fc] 63))
  by_cases h : fn = nm
  · subst h
    rw [decide_eq_true rfl]
    clear hb
    go_enter Try.func164, Try.ntmps164
    go_wp2_with fail
    go_ret
    exact ⟨by simp, HB.out⟩
  · have h1 : (fn == nm) = false := ba_beq_ne h
    have h2 : (fn.toList == nm.toList) = false := ba_tl_ne h
    rw [decide_eq_false h]
    clear hb
    go_enter Try.func164, Try.ntmps164
    go_wp2_with fail
    go_ret
    exact ⟨by simp, HB.out⟩

theorem indexK_any (A : Option Addr) (n c B gb : Nat) (ks : List Kd) (nm : ByteArray) (w : World) (hr : Rd w B 2 A n (kdCs ks)) (hn : n = ks.length) (hc : n ≤ c) (hc2 : c ≤ 9223372036854775807) (hB : B ≤ w.heap.size) (hb : w.cell? ⟨gb, 0, none⟩ = some (.string nm)) (hgb : gb < w.heap.size) :
    Calls Try.prog 163 #[.slice A n c, .func (.func 164) #[] #[.pointer (some ⟨gb, 0, none⟩)]] w fun e w' => e = .returned (.int .i64 (findF (ks.map Kd.nm) nm)) ∧ Below w.heap.size w w' := by
  obtain ⟨R, hR⟩ : ∃ R, R = findF (ks.map Kd.nm) nm := ⟨_, rfl⟩
  rw [← hR]
  have HR := Lib.hid hR
  have HN := Lib.hid hn
  have HRD := Lib.hid hr
  have HBB := Lib.hid hB
  have HB := Lib.hid hb
  clear hr hn hR hB
  go_enter Try.func163, Try.ntmps163
  go_wp2_with fail
  go_loopg [8] n (fun g v wr => ∃ k : Nat, k ≤ n ∧ g = n - k ∧ v = .int .i64 k ∧ Hid (∀ i, i < k → ∀ x, (ks.map Kd.nm)[i]? = some x → x ≠ nm) ∧ Hid (Below w.heap.size w wr))
  case atStart => exact ⟨0, Nat.zero_le _, rfl, rfl, Lib.hid (fun i hi => by omega), Lib.hid (Below.refl _ _)⟩
  case round =>
    obtain ⟨k, hk, rfl, rfl, HNE, HW⟩ := hrel
    clear hb
    by_cases hkn : k < n
    · obtain ⟨f, hf⟩ : ∃ f, ks[k]? = some f := ⟨_, List.getElem?_eq_getElem (by have := HN.out; omega)⟩
      have hrw : Rd wr B 2 A n (kdCs ks) := HRD.out.below (HW.out.mono HBB.out)
      obtain ⟨b, o, hA, hbB, c0, c1⟩ := hrw.kd hkn hf
      subst hA
      have HF : Hid ((ks.map Kd.nm)[k]? = some f.nm) := Lib.hid (by rw [List.getElem?_map, hf]; rfl)
      have hkz : (k : Int) < n := by omega
      have hkz0 : (0 : Int) ≤ k := by omega
      have HCL := Lib.hid (clo164_any f.nm nm f.A f.n f.c gb wr ((HW.out.cell (p := ⟨gb, 0, none⟩) hgb).trans HB.out) (Nat.lt_of_lt_of_le hgb HW.out.size))
      clear hrw hf
      generalize f.nm = fn at *
      generalize f.A = fA at *
      generalize f.n = fl at *
      generalize f.c = fc at *
      go_wp2_with fail
      refine HCL.out.mono ?_
      rintro e w2 ⟨rfl, hb2⟩
      have HW2 := Lib.hid (HW.out.trans (hb2.mono HW.out.size))
      clear hb2
      by_cases hgf : fn = nm
      · rw [decide_eq_true hgf]
        subst hgf
        go_wp2_with fail
        go_ret
        rw [HR.out, findF_hit HF.out HNE.out]
        exact ⟨rfl, HW2.out⟩
      · rw [decide_eq_false hgf]
        go_wp2_with fail
        go_roundg (n - (k + 1))
        case measure => omega
        case rel => exact ⟨k + 1, by omega, rfl, by go_num, Lib.hid fun i hi x hx => by
          rcases Nat.lt_or_ge i k with h | h
          · exact HNE.out i h x hx
          · obtain rfl : i = k := by omega
            rw [HF.out] at hx
            injection hx with hx
            rw [← hx]; exact hgf, HW2⟩
    · obtain rfl : k = n := by omega
      go_wp2_with fail
      go_ret
      rw [HR.out, findF_none fun i hi x hx => HNE.out i (by rw [List.length_map, ← HN.out] at hi; exact hi) x hx]
      exact ⟨rfl, HW.out⟩

theorem clo166_any (fn nm : ByteArray) (fb fl : Int) (w : World) :
    Calls Try.prog 166 #[.agg #[.string fn, .int .i64 fb, .int .i64 fl], .string nm] w fun e w' => e = .returned (.bool (decide (fn = nm))) ∧ Below w.heap.size w w' := by
  have HB := Lib.hid ((Below.refl w.heap.size w).alloc (Nat.le_refl _) (.cells #[.string fn, .int .i64 fb, .int .i64 fl] 66))
  by_cases h : fn = nm
  · subst h
    rw [decide_eq_true rfl]
    go_enter Try.func166, Try.ntmps166
    go_wp2_with fail
    go_ret
    exact ⟨by simp, HB.out⟩
  · have h1 : (fn == nm) = false := ba_beq_ne h
    have h2 : (fn.toList == nm.toList) = false := ba_tl_ne h
    rw [decide_eq_false h]
    go_enter Try.func166, Try.ntmps166
    go_wp2_with fail
    go_ret
    exact ⟨by simp, HB.out⟩

def strV (l : List ByteArray) : List Value := l.map Value.string
theorem strV_get {l : List ByteArray} {k : Nat} {s : ByteArray} (h : l[k]? = some s) : (strV l)[k]? = some (.string s) := by simp [strV, h]

set_option maxHeartbeats 800000 in
theorem equalFN_any (A SA : Option Addr) (n c m sc B : Nat) (fds : List Fd) (ns : List ByteArray) (w : World) (hr : Rd w B 3 A n (fdCs fds)) (hn : n = fds.length) (hc2 : n ≤ 9223372036854775807) (hs : Rd w B 1 SA m (strV ns)) (hm : m = ns.length) (hB : B ≤ w.heap.size) :
    Calls Try.prog 165 #[.slice A n c, .slice SA m sc, .func (.func 166) #[] #[]] w fun e w' => e = .returned (.bool (decide (fds.map Fd.nm = ns))) ∧ Below w.heap.size w w' := by
  obtain ⟨R, hR⟩ : ∃ R, R = decide (fds.map Fd.nm = ns) := ⟨_, rfl⟩
  rw [← hR]
  have HR := Lib.hid hR
  have HN := Lib.hid hn
  have HM := Lib.hid hm
  have HRD := Lib.hid hr
  have HSD := Lib.hid hs
  have HBB := Lib.hid hB
  clear hr hn hR hB hs hm
  by_cases hnm : n = m
  · subst hnm
    go_enter Try.func165, Try.ntmps165
    go_wp2_with fail
    go_loopg [17] n (fun g v wr => ∃ k : Nat, k ≤ n ∧ g = n - k ∧ v = .int .i64 k ∧ Hid (∀ i, i < k → (fds.map Fd.nm)[i]? = ns[i]?) ∧ Hid (Below w.heap.size w wr))
    case atStart => exact ⟨0, Nat.zero_le _, rfl, rfl, Lib.hid (fun i hi => by omega), Lib.hid (Below.refl _ _)⟩
    case round =>
      obtain ⟨k, hk, rfl, rfl, HE, HW⟩ := hrel
      by_cases hkn : k < n
      · obtain ⟨f, hf⟩ : ∃ f, fds[k]? = some f := ⟨_, List.getElem?_eq_getElem (by have := HN.out; omega)⟩
        obtain ⟨s, hs⟩ : ∃ s, ns[k]? = some s := ⟨_, List.getElem?_eq_getElem (by have := HM.out; omega)⟩
        have hrw : Rd wr B 3 A n (fdCs fds) := HRD.out.below (HW.out.mono HBB.out)
        have hsw : Rd wr B 1 SA n (strV ns) := HSD.out.below (HW.out.mono HBB.out)
        obtain ⟨b, o, hA, hbB, c0, c1, c2⟩ := hrw.fd hkn hf
        obtain ⟨sb, so, hSA, hsB, d0⟩ := hsw.at1 hkn (strV_get hs)
        subst hA hSA
        have HF : Hid ((fds.map Fd.nm)[k]? = some f.nm) := Lib.hid (by rw [List.getElem?_map, hf]; rfl)
        have HS := Lib.hid hs
        have hkz : (k : Int) < n := by omega
        have hkz0 : (0 : Int) ≤ k := by omega
        have d1 : (wr.alloc (.cells #[.string f.nm, .int .i64 f.bits, .int .i64 f.low] 66)).cell? ⟨sb, so + k, none⟩ = some (.string s) := (((Below.refl wr.heap.size wr).alloc (Nat.le_refl _) _).cell (p := ⟨sb, so + k, none⟩) (Nat.lt_of_lt_of_le hsB (Nat.le_trans HBB.out HW.out.size))).trans d0
        have HCL := Lib.hid (fun wx => clo166_any f.nm s f.bits f.low wx)
        clear hrw hsw hf hs d0
        generalize f.nm = fn at *
        generalize f.bits = fb at *
        generalize f.low = fl at *
        go_wp2_with fail
        refine (HCL.out _).mono ?_
        rintro e w2 ⟨rfl, hb2⟩
        have HW2 := Lib.hid ((HW.out.alloc HW.out.size (.cells #[.string fn, .int .i64 fb, .int .i64 fl] 66)).trans (hb2.mono (by have := HW.out.size; simp; omega)))
        clear hb2
        by_cases hgf : fn = s
        · rw [decide_eq_true hgf]
          go_wp2_with fail
          go_roundg (n - (k + 1))
          case measure => omega
          case rel => exact ⟨k + 1, by omega, rfl, by go_num, Lib.hid fun i hi => by
            rcases Nat.lt_or_ge i k with h | h
            · exact HE.out i h
            · obtain rfl : i = k := by omega
              rw [HF.out, HS.out, hgf], HW2⟩
        · rw [decide_eq_false hgf]
          go_wp2_with fail
          go_ret
          have hne : fds.map Fd.nm ≠ ns := fun e => by
            have h1 := HF.out
            rw [e, HS.out] at h1
            injection h1 with h1
            exact hgf h1.symm
          rw [HR.out, decide_eq_false hne]
          exact ⟨rfl, HW2.out⟩
      · obtain rfl : k = n := by omega
        go_wp2_with fail
        go_ret
        have he : fds.map Fd.nm = ns := by
          apply List.ext_getElem?
          intro i
          by_cases hi : i < k
          · exact HE.out i hi
          · rw [List.getElem?_eq_none (by rw [List.length_map, ← HN.out]; omega), List.getElem?_eq_none (by rw [← HM.out]; omega)]
        rw [HR.out, decide_eq_true he]
        exact ⟨rfl, HW.out⟩
  · have hz : ((n : Int) != m) = true := by simp; omega
    go_enter Try.func165, Try.ntmps165
    go_wp2_with fail
    go_ret
    have hne : fds.map Fd.nm ≠ ns := fun e => by
      have h1 := congrArg List.length e
      rw [List.length_map, ← HN.out, ← HM.out] at h1
      exact hnm h1
    rw [HR.out, decide_eq_false hne]
    exact ⟨rfl, Below.refl _ _⟩

/-! ### Kg -/
def bfindF (ks : List (ByteArray × List Fd)) (nm : ByteArray) (ns : List ByteArray) : Int × Int :=
  if findF (ks.map (·.1)) nm < 0 then (-1, 0) else
  match ks[(findF (ks.map (·.1)) nm).toNat]? with
  | some k => if k.2.map Fd.nm = ns then (findF (ks.map (·.1)) nm, 0) else (-1, 8)
  | none => (-1, 8)
theorem kdp_nm (ks : List Kd) : (ks.map Kd.p).map (·.1) = ks.map Kd.nm := by rw [List.map_map]; rfl
theorem findF_range (l : List ByteArray) (nm : ByteArray) : findF l nm = -1 ∨ ∃ i : Nat, findF l nm = i ∧ i < l.length := by
  unfold findF
  cases h : l.findIdx? (fun x => decide (x = nm)) with
  | some i => exact .inr ⟨i, rfl, (List.findIdx?_eq_some_iff_getElem.1 h).1⟩
  | none => exact .inl rfl

set_option maxHeartbeats 1600000 in
theorem bfind_any (A SA : Option Addr) (n c m sc B : Nat) (ks : List Kd) (nm : ByteArray) (ns : List ByteArray) (w : World) (hr : Rd w B 2 A n (kdCs ks)) (hn : n = ks.length) (hc : n ≤ c) (hc2 : c ≤ 9223372036854775807) (hks : ∀ k ∈ ks, KdOk w B k)
    (hs : Rd w B 1 SA m (strV ns)) (hm : m = ns.length) (hB : B ≤ w.heap.size) :
    Calls Try.prog 95 #[.slice A n c, .string nm, .slice SA m sc] w fun e w' => e = .returned (.tuple #[.int .i64 (bfindF (ks.map Kd.p) nm ns).1, .int .i64 (bfindF (ks.map Kd.p) nm ns).2]) ∧ Below w.heap.size w w' := by
  obtain ⟨R, hR⟩ : ∃ R, R = bfindF (ks.map Kd.p) nm ns := ⟨_, rfl⟩
  rw [← hR]
  obtain ⟨w1, hw1⟩ : ∃ w1, w1 = w.alloc (.cells #[.string nm] 9) := ⟨_, rfl⟩
  have hb1 : Below w.heap.size w w1 := by rw [hw1]; exact (Below.refl _ w).alloc (Nat.le_refl _) _
  have hbk : Bk w1 w.heap.size 9 #[.string nm] := by rw [hw1]; exact Bk.new _ _ _
  have hix := indexK_any A n c B w.heap.size ks nm w1 (hr.below (hb1.mono hB)) hn hc hc2 (Nat.le_trans hB hb1.size) (hbk.cell 0) hbk.lt
  have HIX := Lib.hid hix
  have HB1 := Lib.hid hb1
  have HR := Lib.hid hR
  have HN := Lib.hid hn
  have HM := Lib.hid hm
  have HRD := Lib.hid hr
  have HSD := Lib.hid hs
  have HKS := Lib.hid hks
  have HBB := Lib.hid hB
  have HW1 := Lib.hid hw1
  clear hr hn hR hB hks hs hm hb1 hbk hix
  go_enter Try.func95, Try.ntmps95
  go_wp2_with fail
  rw [← hw1]
  clear hw1
  refine HIX.out.mono ?_
  rintro e w2 ⟨rfl, hb2⟩
  have HB2 := Lib.hid (HB1.out.trans (hb2.mono HB1.out.size))
  clear hb2 HIX
  rcases findF_range (ks.map Kd.nm) nm with hf | ⟨i, hf, hi⟩
  · rw [hf]
    go_wp2_with fail
    go_ret2
    rw [HR.out, bfindF, kdp_nm, if_pos (by rw [hf]; decide)]
    exact ⟨rfl, HB2.out⟩
  · rw [hf]
    rw [List.length_map, ← HN.out] at hi
    obtain ⟨f, hfk⟩ : ∃ f, ks[i]? = some f := ⟨_, List.getElem?_eq_getElem (by have := HN.out; omega)⟩
    have hrw : Rd w2 B 2 A n (kdCs ks) := HRD.out.below (HB2.out.mono HBB.out)
    obtain ⟨b, o, hA, hbB, c0, c1⟩ := hrw.kd hi hfk
    subst hA
    have hfo := (HKS.out f (List.mem_of_getElem? hfk)).below (HB2.out.mono HBB.out)
    have heq := equalFN_any f.A SA f.n f.c m sc B f.fds ns w2 hfo.rd hfo.len (by have := hfo.cap; have := hfo.cap2; omega) (HSD.out.below (HB2.out.mono HBB.out)) HM.out (Nat.le_trans HBB.out HB2.out.size)
    have HEQ := Lib.hid heq
    have hR2 : R = if f.fds.map Fd.nm = ns then ((i : Int), 0) else (-1, 8) := by
      rw [HR.out, bfindF, kdp_nm, if_neg (by rw [hf]; omega), hf, Int.toNat_natCast, List.getElem?_map, hfk]
      rfl
    have HR2 := Lib.hid hR2
    have hiz : (i : Int) < n := by omega
    have hiz0 : (0 : Int) ≤ i := by omega
    have hizn : ¬ (i : Int) < 0 := by omega
    clear hfo heq hR2 hrw hfk hf HR
    generalize f.nm = fn at *
    generalize f.A = fA at *
    generalize f.n = fl at *
    generalize f.c = fc at *
    go_wp2_with fail
    refine HEQ.out.mono ?_
    rintro e w3 ⟨rfl, hb3⟩
    have HB3 := Lib.hid (HB2.out.trans (hb3.mono HB2.out.size))
    clear hb3
    by_cases he : f.fds.map Fd.nm = ns
    · rw [decide_eq_true he]
      go_wp2_with fail
      go_ret2
      rw [HR2.out, if_pos he]
      exact ⟨rfl, HB3.out⟩
    · rw [decide_eq_false he]
      go_wp2_with fail
      go_ret2
      rw [HR2.out, if_neg he]
      exact ⟨rfl, HB3.out⟩
end Go.Proofs.Ytnidcmhfbkdioaa
