/-
  Slices of byte slices in memory ('Ms'); the contract of slices.Concat at bytes. Conditions: slices that can be read, of moderate size.
-/
import Derived.Test.YtlgcdcjfobfoiaaLk3
namespace Go.Proofs.Ytlgcdcjfobfoiaa
open Go.RowKit
set_option maxRecDepth 100000

structure Ms where
  A : Option Addr
  n : Nat
  c : Nat
  dat : List Nat
def Ms.v (m : Ms) : Value := .slice m.A m.n m.c
def msV (l : List Ms) : List Value := l.map Ms.v
theorem msV_length (l : List Ms) : (msV l).length = l.length := by simp [msV]
theorem msV_append (a b : List Ms) : msV (a ++ b) = msV a ++ msV b := by simp [msV]
theorem msV_one (l : List Ms) : ∀ u ∈ msV l, u.oneCell' = true := by
  intro u hu
  simp only [msV, List.mem_map] at hu
  obtain ⟨m, _, rfl⟩ := hu
  rfl
theorem msV_get {l : List Ms} {k : Nat} {m : Ms} (h : l[k]? = some m) : (msV l)[k]? = some (.slice m.A m.n m.c) := by
  simp [msV, h, Ms.v]
structure MsOk (w : World) (m : Ms) : Prop where
  tr : Tr w 5 1 m.A m.n (bytesV m.dat)
  len : m.n = m.dat.length
  cap : m.n ≤ m.c
  cap2 : m.c ≤ 9223372036854775807
  lt : ∀ b ∈ m.dat, b < 256
theorem MsOk.below {w w' : World} {m : Ms} (h : MsOk w m) (hb : Below w.heap.size w w') : MsOk w' m := ⟨h.tr.below hb, h.len, h.cap, h.cap2, h.lt⟩
def catD (l : List Ms) : List Nat := l.flatMap Ms.dat
theorem catD_take {l : List Ms} {k : Nat} {m : Ms} (h : l[k]? = some m) : catD (l.take (k + 1)) = catD (l.take k) ++ m.dat := by
  rw [List.take_add_one, h]; simp [catD]
theorem catD_le (l : List Ms) (k : Nat) : (catD (l.take k)).length ≤ (catD l).length := by
  conv => rhs; rw [← List.take_append_drop k l]
  simp only [catD, List.flatMap_append, List.length_append]
  omega

def GrowP (w : World) (B0 : Nat) (e : Ending) (w' : World) : Prop :=
  ∃ c', e = .returned (.slice (some ⟨B0, 0, none⟩) 0 c') ∧ w'.ownsRow B0 5 1 (.slice (some ⟨B0, 0, none⟩) 0 c') 0 [] ∧ Below B0 w w'
theorem grow_own (T B0 : Nat) (w : World) (h0 : 0 < T) (h1 : T ≤ 140737488355328) (hB : B0 = w.heap.size) : Calls Try.prog 95 #[.slice none 0 0, .int .i64 T] w (GrowP w B0) := by
  subst hB
  refine (grow_nil T w h0 h1).mono ?_
  rintro e w' ⟨rfl, rfl⟩
  have hge := grownCap_ge w T 0 5
  have hle := grownCap_le_maxLen w T 0 5 (by unfold maxLen; omega)
  refine ⟨_, rfl, ⟨rfl, .inr ⟨w.heap.size, _, _, rfl, Nat.le_refl _, heap_alloc_new w.drew _, Nat.zero_le _, hle, ?_, ?_⟩⟩, ?_⟩
  · simp [size_zeroCells]; omega
  · simp
  · exact ((Below.refl w.heap.size w).drew).alloc (Nat.le_refl _) _

set_option maxHeartbeats 1600000 in
theorem concat_any (A : Option Addr) (n c B : Nat) (l : List Ms) (w : World) (hr : Rd w B 1 A n (msV l)) (hn : n = l.length) (hn1 : n ≤ 1000000) (hm : ∀ m ∈ l, MsOk w m) (hL0 : 0 < (catD l).length) (hL1 : (catD l).length ≤ 1000000) (hB : B ≤ w.heap.size) :
    Calls Try.prog 77 #[.slice A n c] w (RetS w 5 1 (catD l).length (bytesV (catD l))) := by
  obtain ⟨i0, hi0, hz0, hz1, hz2⟩ := info_parts T.info5
  obtain ⟨L, hL⟩ : ∃ L, L = (catD l).length := ⟨_, rfl⟩
  rw [← hL] at hL0 hL1 ⊢
  have HR := Lib.hid hr
  have HN := Lib.hid hn
  have HM := Lib.hid hm
  have HL := Lib.hid hL
  clear hr hn hm hL
  go_enter Try.func77, Try.ntmps77
  go_wp2_with fail
  go_loopw [3, 5, 11] (fun t _ i wr => ∃ k T : Nat, k ≤ n ∧ i = .int .i64 k ∧ t = .int .i64 T ∧ T ≤ L ∧ Hid (T = (catD (l.take k)).length) ∧ wr = w) (fun _ _ i _ => n - (intOf i).toNat)
  case atStart => exact ⟨0, 0, Nat.zero_le _, rfl, rfl, Nat.zero_le _, Lib.hid (by simp [catD]), rfl⟩
  case round =>
    obtain ⟨k, T, hk, rfl, rfl, hTL, HT, rfl⟩ := hrel
    by_cases hlt : k < n
    · obtain ⟨m, hx⟩ : ∃ m, l[k]? = some m := ⟨_, List.getElem?_eq_getElem (by have := HN.out; omega)⟩
      obtain ⟨b, o, rfl, _, c0⟩ := HR.out.at1 hlt (msV_get hx)
      have hok := HM.out m (List.mem_of_getElem? hx)
      have hT2 : T + m.n ≤ L := by
        have h1 := catD_take hx
        have h2 := catD_le l (k + 1)
        rw [h1, List.length_append, ← HT.out, ← hok.len, ← HL.out] at h2
        exact h2
      have HT2 : Hid (T + m.n = (catD (l.take (k + 1))).length) := Lib.hid (by rw [catD_take hx, List.length_append, ← HT.out, ← hok.len])
      clear hx hok
      generalize m.A = mA at *
      generalize m.n = mn at *
      generalize m.c = mc at *
      go_wp2_with fail
      go_roundw
      case rel => exact ⟨k + 1, T + mn, by omega, by go_num, by go_num, hT2, HT2, by first | rfl | trivial⟩
      case measure => simp [intOf]; omega
    · obtain rfl : k = n := by omega
      obtain rfl : T = L := by rw [HT.out, HL.out, List.take_of_length_le (by rw [← HN.out]; omega)]
      obtain ⟨B0, hB0⟩ : ∃ B0, B0 = wr.heap.size := ⟨_, rfl⟩
      have HB0 := Lib.hid hB0
      rw [← hB0] at hB
      clear hB0
      have HGROW := Lib.hid (grow_own T B0 wr hL0 (by omega) HB0.out)
      clear HT
      go_wp2_with fail
      refine HGROW.out.mono ?_
      rintro e w1 ⟨c1, rfl, hown1, hb1⟩
      clear HGROW
      go_wp2_with fail
      go_loopw [6, 8, 27] (fun s _ i w2 => ∃ (j q : Nat) (A2 : Option Addr) (c2 : Nat), j ≤ k ∧ i = .int .i64 j ∧ s = .slice A2 q c2 ∧ q ≤ T ∧ Hid (q = (catD (l.take j)).length) ∧ w2.ownsRow B0 5 1 (.slice A2 q c2) q (bytesV (catD (l.take j))) ∧ Below B0 wr w2) (fun _ _ i _ => k - (intOf i).toNat)
      case atStart => exact ⟨0, 0, _, c1, Nat.zero_le _, rfl, rfl, Nat.zero_le _, Lib.hid (by simp [catD]), by simpa [catD, bytesV] using hown1, hb1⟩
      case round =>
        obtain ⟨j, q, A2, c2, hj, rfl, rfl, hqT, HQ, hown, hb⟩ := hrel
        clear hown1 hb1
        have hsz := hb.size
        by_cases hlt2 : j < k
        · obtain ⟨m, hx⟩ : ∃ m, l[j]? = some m := ⟨_, List.getElem?_eq_getElem (by have := HN.out; omega)⟩
          obtain ⟨b, o, rfl, _, c0⟩ := (HR.out.below (hb.mono hB)).at1 hlt2 (msV_get hx)
          have hok := (HM.out m (List.mem_of_getElem? hx)).below (hb.mono (by have := HB0.out; omega))
          have hT2 : q + m.n ≤ T := by
            have h1 := catD_take hx
            have h2 := catD_le l (j + 1)
            rw [h1, List.length_append, ← HQ.out, ← hok.len, ← HL.out] at h2
            exact h2
          have HT2 : Hid (q + m.n = (catD (l.take (j + 1))).length) := Lib.hid (by rw [catD_take hx, List.length_append, ← HQ.out, ← hok.len])
          have HT3 : Hid (bytesV (catD (l.take (j + 1))) = bytesV (catD (l.take j)) ++ bytesV m.dat) := Lib.hid (by rw [catD_take hx, bytesV_append])
          have HRD := Lib.hid hok.tr.rd
          clear hx hok
          generalize m.A = mA at *
          generalize m.n = mn at *
          generalize m.c = mc at *
          go_wp2_with
            (at_builtin
             go_must (refine wpList_append_rd _ rfl (.tmp 31) (.tmp 32) _ rfl B0 5 i0 (.int .u8 0) 1 1 Try.underlying30 hi0 hz0 hz1 hz2 rfl (by decide) (.slice A2 q c2) q _ rfl hown _ mA mn mc (bytesV m.dat) rfl HRD.out (bytesV_one _) ?c2 ?c3 ?c4 ?_)
             case c2 => unfold maxLen; omega
             case c3 => omega
             case c4 => have := HB0.out; omega
             intro A' c' w3 hown3 hg3 hat3
             have hb3 := hb.grown hg3 (by have := HB0.out; omega) (fun q hq => (hown.lt q hq).1)
             rw [← HT3.out] at hown3
             clear hown hg3 hat3 hb)
          go_roundw
          case rel => exact ⟨j + 1, q + mn, A', c', by omega, by go_num, rfl, hT2, HT2, hown3, hb3⟩
          case measure => simp [intOf]; omega
        · obtain rfl : j = k := by omega
          have hq : q = T := by rw [HQ.out, HL.out, List.take_of_length_le (by rw [← HN.out]; omega)]
          subst hq
          rw [List.take_of_length_le (by rw [← HN.out]; omega)] at hown
          go_wp2_with fail
          go_ret
          exact ⟨A2, c2, rfl, by rw [← HB0.out]; exact hown, by rw [← HB0.out]; exact hb⟩
end Go.Proofs.Ytlgcdcjfobfoiaa
