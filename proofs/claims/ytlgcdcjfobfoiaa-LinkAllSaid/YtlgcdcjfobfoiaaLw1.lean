/-
  The walks of the laws InputFaults and InputPacks. Conditions: the inputs fit their kinds.
-/
import Derived.Test.YtlgcdcjfobfoiaaPd
namespace Go.Proofs.Ytlgcdcjfobfoiaa
open Go.RowKit
set_option maxRecDepth 100000

def i0 : Inp := ⟨0, 0, 0⟩
def i1 : Inp := ⟨1, 0, 0⟩
theorem pk01 : packB (packBits [i0] [i1]) = [3, 0] := by decide

theorem own_rd {w w' : World} {base : Nat} {e : TypeId} {size n c : Nat} {A : Option Addr} {xs : List Value} (h : w.ownsRow base e size (.slice A n c) n xs) (hb : Below w.heap.size w w') : Rd w' w.heap.size size A n xs :=
  (Rd.of_own h).below hb
theorem own_keep {w w' : World} {base : Nat} {e : TypeId} {size n : Nat} {v : Value} {xs : List Value} (h : w.ownsRow base e size v n xs) (hb : Below w.heap.size w w') : w'.ownsRow base e size v n xs :=
  h.kept (row := none) ⟨hb.os, hb.tape, hb.output, hb.size, fun k hk _ => hb.block k hk⟩ (by cases hv : v.ownBlock <;> simp)

set_option maxHeartbeats 1600000 in
theorem packed_fact (w : World) : Calls Try.prog 17 #[] w fun e w' => e = .returned (.bool true) ∧ Below w.heap.size w w' := by
  go_enter Try.func17, Try.ntmps17
  go_wp2_with fail
  have hA : Rd ((w.alloc (.cells #[.int .i64 0, .int .i64 0, .int .i64 0] 24)).alloc (.cells #[.int .i64 1, .int .i64 0, .int .i64 0] 24)) (w.heap.size + 2) 3 (some ⟨w.heap.size, 0, none⟩) 1 (inCs [i0]) :=
    (((Rd.new w 24 1 3 #[.int .i64 0, .int .i64 0, .int .i64 0] rfl).keep (fun b hb => Below.heap_alloc _ _ _ (by simpa using hb))).more (by omega))
  have hB : Rd ((w.alloc (.cells #[.int .i64 0, .int .i64 0, .int .i64 0] 24)).alloc (.cells #[.int .i64 1, .int .i64 0, .int .i64 0] 24)) (w.heap.size + 2) 3 (some ⟨w.heap.size + 1, 0, none⟩) 1 (inCs [i1]) := by
    have := Rd.new (w.alloc (.cells #[.int .i64 0, .int .i64 0, .int .i64 0] 24)) 24 1 3 #[.int .i64 1, .int .i64 0, .int .i64 0] rfl
    simpa [inCs, Inp.cs, i1] using this
  have hp := pack_good (some ⟨w.heap.size, 0, none⟩) (some ⟨w.heap.size + 1, 0, none⟩) 1 1 1 1 (w.heap.size + 2) [i0] [i1] _ rfl rfl (by decide) rfl hA hB (by simp) (by decide) (by decide) (by decide)
  rw [pk01] at hp
  refine hp.mono ?_
  rintro e w1 ⟨A1, c1, rfl, hown1, hb1⟩
  clear hp hA hB
  have hsz : w.heap.size + 2 ≤ w1.heap.size := by have := hb1.size; simpa using this
  have hbw : Below w.heap.size w w1 := (((Below.refl w.heap.size w).alloc (Nat.le_refl _) _).alloc (by simp) _).trans (hb1.mono (by simp; omega))
  have hR1 : Rd (w1.alloc (.cells #[.int .u8 3, .int .u8 0] 5)) w1.heap.size 1 A1 2 (bytesV [3, 0]) := own_rd hown1 ((Below.refl _ _).alloc (Nat.le_refl _) _)
  have hR2 : Rd (w1.alloc (.cells #[.int .u8 3, .int .u8 0] 5)) (w1.heap.size + 1) 1 (some ⟨w1.heap.size, 0, none⟩) 2 (bytesV [3, 0]) := Rd.new w1 5 2 1 #[.int .u8 3, .int .u8 0] rfl
  have hq := bytesEqual_any A1 (some ⟨w1.heap.size, 0, none⟩) 2 c1 2 2 _ [3, 0] [3, 0] _ (by decide) (by decide) (hR1.more (Nat.le_succ _)) hR2
  simp only [decide_true] at hq
  have HQ := Lib.hid hq
  clear hq hR1 hR2 hown1
  go_wp2_with fail
  refine HQ.out.mono ?_
  rintro e w2 ⟨rfl, rfl⟩
  go_wp2_with fail
  go_ret
  exact ⟨rfl, hbw.alloc (by omega) _⟩

/-- The law InputPacks, walked: it returns true. -/
theorem errF_eq_0 {n : Int} {l : List Inp} (h : errF n l = 0) : 1 ≤ n ∧ n ≤ 8 ∧ (l.length : Int) = n ∧ ∀ i ∈ l, ¬ i.bad := by
  unfold errF at h
  split at h
  · simp at h
  · rename_i h1
    simp only [not_or, not_exists, not_and, Int.not_lt] at h1
    exact ⟨h1.1, h1.2.1, by have := h1.2.2.1; omega, fun i hi => h1.2.2.2 i hi⟩
theorem errF_01 (n : Int) (l : List Inp) : errF n l = 0 ∨ errF n l = 1 := by unfold errF; split <;> simp

set_option maxHeartbeats 3200000 in
theorem inputPacks_walk (A A' : Option Addr) (n c n' c' B : Nat) (l l' : List Inp) (w : World) (hn : n = l.length) (hn' : n' = l'.length) (hm : n ≤ 9223372036854775807) (hm' : n' ≤ 9223372036854775807)
   (hr : Rd w B 3 A n (inCs l)) (hr' : Rd w B 3 A' n' (inCs l')) (hB : B ≤ w.heap.size) :
    Calls Try.prog 4 #[.slice A n c, .slice A' n' c'] w fun e w' => e = .returned (.bool true) ∧ Below w.heap.size w w' := by
  have F1 : ∀ w', Below w.heap.size w w' → Calls Try.prog 19 #[.int .i64 n, .slice A n c] w' fun e w'' => e = .returned (.int .i64 (errF n l)) ∧ Below w'.heap.size w' w'' :=
    fun w' hb => framefault_any (n : Int) A n c B l w' hn hm (hr.below (hb.mono hB)) (by have := hb.size; omega)
  have F2 : ∀ w', Below w.heap.size w w' → Calls Try.prog 19 #[.int .i64 n, .slice A' n' c'] w' fun e w'' => e = .returned (.int .i64 (errF n l')) ∧ Below w'.heap.size w' w'' :=
    fun w' hb => framefault_any (n : Int) A' n' c' B l' w' hn' hm' (hr'.below (hb.mono hB)) (by have := hb.size; omega)
  have HF1 := Lib.hid F1
  have HF2 := Lib.hid F2
  clear F1 F2
  have hE : errFs l l' = if errF n l = 0 then errF n l' else errF n l := by rw [hn]; rfl
  by_cases h0 : errF n l = 0
  · rw [if_pos h0] at hE
    by_cases h1 : errF n l' = 0
    · rw [h1] at hE
      obtain ⟨g1, g2, g3, g4⟩ := errF_eq_0 h0
      obtain ⟨_, _, k3, k4⟩ := errF_eq_0 h1
      have P := pack_good A A' n c n' c' B l l' w hn hn' (by omega) (by omega) hr hr' hB hE g4 k4
      have Q : ∀ w', Below w.heap.size w w' → Calls Try.prog 22 #[.slice A n c, .slice A' n' c'] w' (RetS w' 5 1 (packB (packBits l l')).length (bytesV (packB (packBits l l')))) :=
        fun w' hb => packed_good A A' n c n' c' B l l' w' hn hn' (by omega) (by omega) (hr.below (hb.mono hB)) (hr'.below (hb.mono hB)) (by have := hb.size; omega) g4 k4
      have hlt := (packB_lt (packBits l l')).1
      have hE1 : ∀ (B1 : Nat) (A1 A2 : Option Addr) (c1 c2 : Nat) (w' : World), Rd w' B1 1 A1 (packB (packBits l l')).length (bytesV (packB (packBits l l'))) → Rd w' B1 1 A2 (packB (packBits l l')).length (bytesV (packB (packBits l l'))) →
          Calls Try.prog 21 #[.slice A1 (packB (packBits l l')).length c1, .slice A2 (packB (packBits l l')).length c2] w' fun e w'' => e = .returned (.bool true) ∧ w' = w'' := fun B1 A1 A2 c1 c2 w' r1 r2 => by
        have := bytesEqual_any A1 A2 _ c1 _ c2 B1 _ _ w' hlt hlt r1 r2
        simpa using this
      have HP := Lib.hid P
      have HQ := Lib.hid Q
      have HE1 := Lib.hid hE1
      have HH0 := Lib.hid h0
      have HH1 := Lib.hid h1
      clear P Q hE1 hlt hE h0 h1 g1 g2 g3 g4 k3 k4 hn hn' hr hr'
      generalize packB (packBits l l') = L at *
      go_enter Try.func4, Try.ntmps4
      go_wp2_with fail
      refine HP.out.mono ?_
      rintro e w1 ⟨A1, c1, rfl, hown1, hb1⟩
      have hs1 := hb1.size
      go_wp2_with fail
      refine (HF1.out w1 hb1).mono ?_
      rintro e w2 ⟨he, hb2⟩
      rw [HH0.out] at he
      subst he
      have hbb2 := hb1.trans (hb2.mono hs1)
      have hs2 := hbb2.size
      go_wp2_with fail
      refine (HF2.out w2 hbb2).mono ?_
      rintro e w3 ⟨he, hb3⟩
      rw [HH1.out] at he
      subst he
      have hbb3 := hbb2.trans (hb3.mono hs2)
      have hs3 := hbb3.size
      go_wp2_with fail
      refine (packed_fact w3).mono ?_
      rintro e w4 ⟨rfl, hb4⟩
      have hbb4 := hbb3.trans (hb4.mono hs3)
      go_wp2_with fail
      refine (HQ.out w4 hbb4).mono ?_
      rintro e w5 ⟨A5, c5, rfl, hown5, hb5⟩
      have hb15 : Below w1.heap.size w1 w5 := (hb2.trans (hb3.mono hb2.size)).trans ((hb4.mono (by have := hb2.size; have := hb3.size; omega)).trans (hb5.mono (by have := hb2.size; have := hb3.size; have := hb4.size; omega)))
      go_wp2_with fail
      refine (HE1.out w5.heap.size A1 A5 c1 c5 w5 ((own_rd hown1 hb15).more hb15.size) (Rd.of_own hown5)).mono ?_
      rintro e w6 ⟨rfl, rfl⟩
      go_wp2_with fail
      go_ret
      exact ⟨rfl, hb1.trans (hb15.mono hs1)⟩
    · rw [(errF_01 n l').resolve_left h1] at hE
      have P := pack_bad A A' n c n' c' B l l' w hn hn' hm hm' hr hr' hB (by rw [hE]; decide)
      rw [hE] at P
      have HP := Lib.hid P
      have HH0 := Lib.hid h0
      have HH1 := Lib.hid ((errF_01 n l').resolve_left h1)
      clear P hE h0 h1 hn hn' hr hr'
      go_enter Try.func4, Try.ntmps4
      go_wp2_with fail
      refine HP.out.mono ?_
      rintro e w1 ⟨A1, c1, rfl, hown1, hb1⟩
      have hs1 := hb1.size
      go_wp2_with fail
      refine (HF1.out w1 hb1).mono ?_
      rintro e w2 ⟨he, hb2⟩
      rw [HH0.out] at he
      subst he
      have hbb2 := hb1.trans (hb2.mono hs1)
      have hs2 := hbb2.size
      go_wp2_with fail
      refine (HF2.out w2 hbb2).mono ?_
      rintro e w3 ⟨he, hb3⟩
      rw [HH1.out] at he
      subst he
      have hbb3 := hbb2.trans (hb3.mono hs2)
      have hs3 := hbb3.size
      go_wp2_with fail
      refine (packed_fact w3).mono ?_
      rintro e w4 ⟨rfl, hb4⟩
      have hbb4 := hbb3.trans (hb4.mono hs3)
      have hs4 := hbb4.size
      go_wp2_with fail
      refine (packed_fact w4).mono ?_
      rintro e w5 ⟨rfl, hb5⟩
      go_wp2_with fail
      go_ret
      exact ⟨rfl, hbb4.trans (hb5.mono hs4)⟩
  · rw [if_neg h0, (errF_01 n l).resolve_left h0] at hE
    have P := pack_bad A A' n c n' c' B l l' w hn hn' hm hm' hr hr' hB (by rw [hE]; decide)
    rw [hE] at P
    have HP := Lib.hid P
    have HH0 := Lib.hid ((errF_01 n l).resolve_left h0)
    clear P hE h0 hn hn' hr hr'
    go_enter Try.func4, Try.ntmps4
    go_wp2_with fail
    refine HP.out.mono ?_
    rintro e w1 ⟨A1, c1, rfl, hown1, hb1⟩
    have hs1 := hb1.size
    go_wp2_with fail
    refine (HF1.out w1 hb1).mono ?_
    rintro e w2 ⟨he, hb2⟩
    rw [HH0.out] at he
    subst he
    have hbb2 := hb1.trans (hb2.mono hs1)
    have hs2 := hbb2.size
    go_wp2_with fail
    refine (packed_fact w2).mono ?_
    rintro e w4 ⟨rfl, hb4⟩
    have hbb4 := hbb2.trans (hb4.mono hs2)
    have hs4 := hbb4.size
    go_wp2_with fail
    refine (packed_fact w4).mono ?_
    rintro e w5 ⟨rfl, hb5⟩
    go_wp2_with fail
    go_ret
    exact ⟨rfl, hbb4.trans (hb5.mono hs4)⟩

set_option maxHeartbeats 1600000 in
theorem inputFaults_walk (p : Int) (A : Option Addr) (n c B : Nat) (l : List Inp) (w : World) (hn : n = l.length) (hm : n ≤ 9223372036854775807)
   (hr : Rd w B 3 A n (inCs l)) (hB : B ≤ w.heap.size) :
    Calls Try.prog 3 #[.int .i64 p, .slice A n c] w fun e w' => e = .returned (.bool true) ∧ Below w.heap.size w w' := by
  have F1 : ∀ w', Below w.heap.size w w' → Calls Try.prog 19 #[.int .i64 p, .slice A n c] w' fun e w'' => e = .returned (.int .i64 (errF p l)) ∧ Below w'.heap.size w' w'' :=
    fun w' hb => framefault_any p A n c B l w' hn hm (hr.below (hb.mono hB)) (by have := hb.size; omega)
  have F2 : ∀ w', Below w.heap.size w w' → Calls Try.prog 18 #[.int .i64 p, .slice A n c] w' fun e w'' => e = .returned (.int .i64 (errF p l)) ∧ Below w'.heap.size w' w'' :=
    fun w' hb => frame_any p A n c B l w' hn hm (hr.below (hb.mono hB)) (by have := hb.size; omega)
  have HF1 := Lib.hid F1
  have HF2 := Lib.hid F2
  have HR := Lib.hid hr
  have HN := Lib.hid hn
  clear F1 F2 hn hr
  go_enter Try.func3, Try.ntmps3
  go_wp2_with fail
  go_loopw [9] (fun i wr => ∃ k : Nat, k ≤ n ∧ i = .int .i64 k ∧ Below w.heap.size w wr) (fun i _ => n - (intOf i).toNat)
  case atStart => exact ⟨0, Nat.zero_le _, rfl, Below.refl _ _⟩
  case round =>
    obtain ⟨k, hk, rfl, hb⟩ := hrel
    have hsz := hb.size
    by_cases hlt : k < n
    · obtain ⟨b, o, i, rfl, hbB, hi, c0, c1, c2⟩ := HR.out.inp HN.out hlt hb hB
      have lb : b < wr.heap.size := by omega
      have ht : (errI i != errI i) = false := by simp
      clear hi
      go_wp2_with fail
      have hX : Bk (wr.alloc (.cells #[.int .i64 i.k, .int .i64 i.x, .int .i64 i.y] 24)).drew wr.heap.size 24 #[.int .i64 i.k, .int .i64 i.x, .int .i64 i.y] := Bk.new _ _ _
      have hbA := (hb.alloc hsz (.cells #[.int .i64 i.k, .int .i64 i.x, .int .i64 i.y] 24)).drew
      have lX : wr.heap.size < (wr.alloc (.cells #[.int .i64 i.k, .int .i64 i.x, .int .i64 i.y] 24)).drew.heap.size := by show _ < (wr.alloc _).heap.size; simp
      generalize (wr.alloc (.cells #[.int .i64 i.k, .int .i64 i.x, .int .i64 i.y] 24)) = W at *
      obtain ⟨k1, k2, k3⟩ := hX.inp
      have q1 : W.cell? ⟨wr.heap.size, 0, none⟩ = some (.int .i64 i.k) := k1
      have q2 : W.cell? ⟨wr.heap.size, 1, none⟩ = some (.int .i64 i.x) := k2
      have q3 : W.cell? ⟨wr.heap.size, 2, none⟩ = some (.int .i64 i.y) := k3
      go_region_held3 (fun w' => w'.cell? ⟨wr.heap.size, 0, none⟩ = some (.int .i64 i.k) ∧ w'.cell? ⟨wr.heap.size, 1, none⟩ = some (.int .i64 i.x) ∧ w'.cell? ⟨wr.heap.size, 2, none⟩ = some (.int .i64 i.y)) (first | go_keep | exact hX.inp)
        (first | (go_at_call 15; (with_reducible refine (check_any i _).mono ?_); rintro e wn ⟨rfl, hbn⟩; have hX := Bk.below hX hbn lX; have hbA := hbA.trans (hbn.mono (by omega)); have lX := Nat.lt_of_lt_of_le lX hbn.size) | (go_at_call 16; (with_reducible refine (fault_any i _).mono ?_); rintro e wn ⟨rfl, hbn⟩; have hX := Bk.below hX hbn lX; have hbA := hbA.trans (hbn.mono (by omega)); have lX := Nat.lt_of_lt_of_le lX hbn.size))
      all_goals
        go_wp2_with fail
        go_roundw
        case measure => simp [intOf]; omega
        case rel => exact ⟨k + 1, by omega, by go_num, hbA⟩
    · go_wp2_with fail
      refine (packed_fact wr).mono ?_
      rintro e w1 ⟨rfl, hb1⟩
      have hbb1 := hb.trans (hb1.mono hsz)
      have hs1 := hbb1.size
      go_wp2_with fail
      refine (HF2.out w1 hbb1).mono ?_
      rintro e w2 ⟨rfl, hb2⟩
      have hbb2 := hbb1.trans (hb2.mono hs1)
      have hs2 := hbb2.size
      go_wp2_with fail
      refine (HF1.out w2 hbb2).mono ?_
      rintro e w3 ⟨rfl, hb3⟩
      have ht : (errF p l == errF p l) = true := by simp
      go_wp2_with fail
      go_ret
      exact ⟨rfl, hbb2.trans (hb3.mono hs2)⟩
end Go.Proofs.Ytlgcdcjfobfoiaa
