/-
  The packet of an end: plain; the contract of Out. Conditions: an end in memory, messages of at most 1000 bytes.
-/
import Derived.Test.YtlgcdcjfobfoiaaLk7
namespace Go.Proofs.Ytlgcdcjfobfoiaa
open Go.RowKit
set_option maxRecDepth 100000

def msgB (m : List Nat) : List Nat := bigB m.length 2 ++ m
def headB (next first many : Nat) : List Nat := bigB next 4 ++ bigB first 4 ++ [many]
def bodyB (next first : Nat) (W : List (List Nat)) : List Nat := headB next first (min W.length 8) ++ (W.take 8).flatMap msgB
def pktB (next first : Nat) (W : List (List Nat)) : List Nat := bodyB next first W ++ bigB (sumBy (bodyB next first W)).toNat 8

theorem msgB_length (m : List Nat) : (msgB m).length = m.length + 2 := by unfold msgB; rw [List.length_append, bigB_length]; omega
theorem headB_length (a b c : Nat) : (headB a b c).length = 9 := by simp [headB, bigB_length]
theorem flat_le (l : List (List Nat)) (h : ∀ m ∈ l, m.length ≤ 1000) : (l.flatMap msgB).length ≤ 1002 * l.length := by
  induction l with
  | nil => simp
  | cons a l ih =>
    have h1 := h a (by simp)
    have h2 := ih fun m hm => h m (by simp [hm])
    rw [List.flatMap_cons, List.length_append, msgB_length, List.length_cons]
    omega
theorem bodyB_le (a b : Nat) (W : List (List Nat)) (h : ∀ m ∈ W, m.length ≤ 1000) : 9 ≤ (bodyB a b W).length ∧ (bodyB a b W).length ≤ 8025 := by
  have h1 := flat_le (W.take 8) fun m hm => h m (List.mem_of_mem_take hm)
  have h2 : (W.take 8).length ≤ 8 := List.length_take_le _ _
  unfold bodyB
  rw [List.length_append, headB_length]
  omega
theorem pktB_le (a b : Nat) (W : List (List Nat)) (h : ∀ m ∈ W, m.length ≤ 1000) : 17 ≤ (pktB a b W).length ∧ (pktB a b W).length ≤ 8033 := by
  have := bodyB_le a b W h
  unfold pktB
  rw [List.length_append, bigB_length]
  omega
theorem headB_lt (a b c : Nat) (hc : c < 256) : ∀ x ∈ headB a b c, x < 256 := by
  intro x hx
  unfold headB at hx
  rcases List.mem_append.1 hx with hx | hx
  · rcases List.mem_append.1 hx with hx | hx
    · exact bigB_lt _ _ x hx
    · exact bigB_lt _ _ x hx
  · simp at hx; omega
theorem flat_lt (l : List (List Nat)) (h : ∀ m ∈ l, ∀ x ∈ m, x < 256) : ∀ x ∈ l.flatMap msgB, x < 256 := by
  intro x hx
  obtain ⟨m, hm, hx⟩ := List.mem_flatMap.1 hx
  unfold msgB at hx
  rcases List.mem_append.1 hx with hx | hx
  · exact bigB_lt _ _ x hx
  · exact h m hm x hx
theorem pktB_lt (a b : Nat) (W : List (List Nat)) (h : ∀ m ∈ W, ∀ x ∈ m, x < 256) : ∀ x ∈ pktB a b W, x < 256 := by
  intro x hx
  unfold pktB bodyB at hx
  rcases List.mem_append.1 hx with hx | hx
  · rcases List.mem_append.1 hx with hx | hx
    · exact headB_lt _ _ _ (by omega) x hx
    · exact flat_lt _ (fun m hm => h m (List.mem_of_mem_take hm)) x hx
  · exact bigB_lt _ _ x hx
/-- What has been written after k messages. -/
def bodyK (next first : Nat) (W : List (List Nat)) (k : Nat) : List Nat := headB next first (min W.length 8) ++ (W.take k).flatMap msgB
theorem bodyK_succ (a b : Nat) {W : List (List Nat)} {k : Nat} {m : List Nat} (h : W[k]? = some m) : bodyK a b W (k + 1) = (bodyK a b W k ++ bigB m.length 2) ++ m := by
  unfold bodyK
  rw [List.take_add_one, h]
  simp [msgB]
theorem bodyK_le (a b : Nat) (W : List (List Nat)) (h : ∀ m ∈ W, m.length ≤ 1000) (k : Nat) (hk : k ≤ 8) : (bodyK a b W k).length ≤ 8025 := by
  have h1 := flat_le (W.take k) fun m hm => h m (List.mem_of_mem_take hm)
  have h2 : (W.take k).length ≤ k := List.length_take_le _ _
  unfold bodyK
  rw [List.length_append, headB_length]
  omega
theorem bigB_take (s j d : Nat) (h : j + (d + 1) = 8) : (bigB s 8).take (j + 1) = (bigB s 8).take j ++ [s / 2 ^ (8 * d) % 256] := by
  rw [List.take_add_one, bigB_at s 8 j (by omega)]
  congr 1
  rw [show 8 - 1 - j = d by omega, show (256 : Nat) = 2 ^ 8 by rfl, ← Nat.pow_mul]
  rfl

theorem Sh.rd {w : World} {base size n c : Nat} {e : TypeId} {A : Option Addr} {xs : List Value} (h : Sh w base e size A n c xs) : Rd w w.heap.size size A n xs :=
  ⟨h.1, fun hn => by
    obtain ⟨g, o, cs, rfl, _, hb, hc⟩ := h.open_ hn
    exact ⟨g, o, rfl, hb.lt, hc⟩⟩

def NumP (w : World) (base n : Nat) (l : List Nat) (e : Ending) (w' : World) : Prop :=
  ∃ A' c', e = .returned (.slice A' n c') ∧ w'.ownsRow base 5 1 (.slice A' n c') n (bytesV l) ∧ Below base w w'

set_option maxHeartbeats 3200000 in
theorem out_any {base : Nat} {F : List Nat} {g first next : Nat} {W G : List (List Nat)} (w : World) (h : EndS w base F g first next W G) (hW : ∀ m ∈ W, m.length ≤ 1000) (hf : first ≤ 1000000) (hx : next ≤ 1000000) :
    Calls Try.prog 46 #[.pointer (some ⟨g, 0, none⟩)] w (RetS w 5 1 (pktB next first W).length (bytesV (pktB next first W))) := by
  obtain ⟨i0, hi0, hz0, hz1, hz2⟩ := info_parts T.info5
  obtain ⟨Ws, Gs, WA, GA, wc, gc, h, rfl, rfl⟩ := h
  obtain ⟨B0, hB0⟩ : ∃ B0, B0 = w.heap.size := ⟨_, rfl⟩
  obtain ⟨q, hq⟩ : ∃ q, q = Ws.length := ⟨_, rfl⟩
  have c0 : w.cell? ⟨g, 0, none⟩ = some (.int .i64 first) := h.bk.cell 0
  have c1 : w.cell? ⟨g, 1, none⟩ = some (.slice WA Ws.length wc) := h.bk.cell 1
  have c2 : w.cell? ⟨g, 2, none⟩ = some (.int .i64 next) := h.bk.cell 2
  rw [← hq] at c1
  have hcap : q ≤ wc ∧ wc ≤ maxLen := by rw [hq]; exact ⟨h.wait.2.1, h.wait.2.2.1⟩
  have hm63 : maxLen = 9223372036854775807 := rfl
  rw [hm63] at hcap
  clear hm63
  obtain ⟨hcap1, hcap2⟩ := hcap
  obtain ⟨t, ht⟩ : ∃ t, t = min q 8 := ⟨_, rfl⟩
  have hmin : min (q : Int) 8 = (t : Int) := by omega
  have ht1 : t ≤ q := by omega
  have ht2 : t ≤ 8 := by omega
  have hgl := h.bk.lt
  have hBk := h.bk
  rw [← hq] at hBk
  have HBK := Lib.hid hBk
  have HST := Lib.hid h
  have HW := Lib.hid hW
  have HT := Lib.hid ht
  have HQ := Lib.hid hq
  have HB0 := Lib.hid hB0
  have HN1 : Hid (Calls Try.prog 75 #[.slice none 0 0, .int .i64 next] w.drew (NumP w.drew B0 (0 + 4) ([] ++ bigB next 4))) := Lib.hid (number_any B0 none 0 0 next [] w.drew (by omega) (World.ownsRow_nil _ _ _ _) rfl (by omega) (by rw [hB0]; exact Nat.le_refl _))
  have HN2 : Hid (∀ A c w1, w1.ownsRow B0 5 1 (.slice A (0 + 4) c) (0 + 4) (bytesV ([] ++ bigB next 4)) → Below B0 w.drew w1 → Calls Try.prog 75 #[.slice A (0 + 4) c, .int .i64 first] w1 (NumP w1 B0 (0 + 4 + 4) (([] ++ bigB next 4) ++ bigB first 4))) := Lib.hid fun A c w1 h1 h2 => number_any B0 A (0 + 4) c first _ w1 (by omega) h1 (by simp [bigB_length]) (by omega) (by have := h2.size; rw [hB0]; simpa [← hB0] using this)
  clear h hW ht hq hB0 hBk
  go_enter Try.func46, Try.ntmps46
  go_wp2_with fail
  go_region_held3 (fun w' => w'.cell? ⟨g, 0, none⟩ = some (.int .i64 first) ∧ w'.cell? ⟨g, 2, none⟩ = some (.int .i64 next)) (first | go_keep | (with_reducible exact ⟨k0, k2⟩) | (with_reducible exact ⟨m0, m2⟩))
    (first
      | (go_at_call 75
         (with_reducible refine (HN1.out).mono ?_)
         rintro e w1 ⟨A1, d1, rfl, hown1, hb1⟩
         have k0 : w1.cell? ⟨g, 0, none⟩ = some (.int .i64 first) := ((HBK.out.drewN 1).below hb1 (by have := HB0.out; omega)).cell 0
         have k2 : w1.cell? ⟨g, 2, none⟩ = some (.int .i64 next) := ((HBK.out.drewN 1).below hb1 (by have := HB0.out; omega)).cell 2)
      | (go_at_call 75
         (with_reducible refine (HN2.out _ _ _ hown1 hb1).mono ?_)
         rintro e w2 ⟨A2, d2, rfl, hown2, hb2⟩
         have m0 : w2.cell? ⟨g, 0, none⟩ = some (.int .i64 first) := (((HBK.out.drewN 1).below hb1 (by have := HB0.out; omega)).below hb2 (by have := HB0.out; omega)).cell 0
         have m2 : w2.cell? ⟨g, 2, none⟩ = some (.int .i64 next) := (((HBK.out.drewN 1).below hb1 (by have := HB0.out; omega)).below hb2 (by have := HB0.out; omega)).cell 2))
  have hB2 : Below B0 w w2 := (((Below.refl B0 w).drew).trans hb1).trans hb2
  have hown2' : w2.ownsRow B0 5 1 (.slice A2 8 d2) 8 (bytesV (bigB next 4 ++ bigB first 4)) := hown2
  have hBK2 := HBK.out.below hB2 (by have := HB0.out; omega)
  clear hown1 hb1 hown2 hb2 k0 k2 m0 m2 HN1 HN2 c0 c1 c2
  have e1 : w2.cell? ⟨g, 1, none⟩ = some (.slice WA q wc) := hBK2.cell 1
  have hs2 : B0 ≤ w2.heap.size := by have := hB2.size; have := HB0.out; omega
  have ht3 : (t : Int) < 256 := by omega
  go_wp2_with
    (at_builtin
     go_must (refine wpList_append_one _ rfl (.tmp 25) (.tmp 28) _ rfl B0 5 i0 (.int .u8 0) 1 1 Try.underlying30 hi0 hz0 hz1 hz2 rfl (by decide) (.slice A2 8 d2) 8 _ rfl (hown2'.alloc _) w2.heap.size 1 5 #[.int .u8 t] rfl (Bk.new _ _ _) rfl ?c1 9 rfl ?c2 ?c3 ?c4 ?_)
     case c1 => simp [Value.oneCell']
     case c2 => unfold maxLen; omega
     case c3 => omega
     case c4 => simp; omega
     intro g3 d3 w3 hown3 hg3 hat3
     have hB3 := (hB2.alloc hs2 (.cells #[.int .u8 t] 5)).grown hg3 (by simp; omega) (fun k hk => (hown2'.lt k hk).1)
     have hBK3 := HBK.out.below hB3 (by have := HB0.out; omega)
     have e3 : w3.cell? ⟨g, 1, none⟩ = some (.slice WA q wc) := hBK3.cell 1
     clear e1 hg3 hat3)
  have hown3' : w3.ownsRow B0 5 1 (.slice (some ⟨g3, 0, none⟩) 9 d3) 9 (bytesV (bodyK next first (Ws.map Ms.dat) 0)) := by
    have h1 : bodyK next first (Ws.map Ms.dat) 0 = (bigB next 4 ++ bigB first 4) ++ [t] := by simp [bodyK, headB, HT.out, HQ.out]
    rw [h1, bytesV_append]; exact hown3
  clear hown3 hown2' hBK2 hBK3 e3 hB2 hs2
  go_loopw [4, 6, 37] (fun b _ i wr => ∃ (k n : Nat) (A : Option Addr) (c : Nat), k ≤ t ∧ i = .int .i64 k ∧ b = .slice A n c ∧ n ≤ 8025 ∧ Hid (n = (bodyK next first (Ws.map Ms.dat) k).length) ∧ wr.ownsRow B0 5 1 (.slice A n c) n (bytesV (bodyK next first (Ws.map Ms.dat) k)) ∧ Below B0 w wr) (fun _ _ i _ => t - (intOf i).toNat)
  case atStart => exact ⟨0, 9, _, d3, Nat.zero_le _, rfl, rfl, by omega, Lib.hid (by simp [bodyK, headB_length]), hown3', hB3⟩
  case round =>
    obtain ⟨k, n, A, c, hk, rfl, rfl, hn, HN, hown, hb⟩ := hrel
    clear hown3' hB3
    have hsz : B0 ≤ wr.heap.size := by have := hb.size; have := HB0.out; omega
    by_cases hlt : k < t
    · obtain ⟨m, hm⟩ : ∃ m, Ws[k]? = some m := ⟨_, List.getElem?_eq_getElem (by have := HQ.out; omega)⟩
      have hrw : Rd wr B0 1 WA q (msV Ws) := by
        have h1 := (HST.out.wait.rd).more (Nat.le_of_eq HB0.out.symm)
        rw [← HQ.out] at h1
        exact h1.below hb
      obtain ⟨xb, xo, rfl, _, cx⟩ := hrw.at1 (Nat.lt_of_lt_of_le hlt ht1) (msV_get hm)
      have hok := (HST.out.okW m (List.mem_of_getElem? hm)).below (hb.mono (by have := HB0.out; omega))
      have hm1 : m.n ≤ 1000 := by rw [hok.len]; exact HW.out m.dat (List.mem_map_of_mem (List.mem_of_getElem? hm))
      have hsucc := bodyK_succ next first (W := Ws.map Ms.dat) (k := k) (m := m.dat) (by rw [List.getElem?_map, hm]; rfl)
      rw [← hok.len] at hsucc
      have HSU := Lib.hid hsucc
      have HLE := Lib.hid (bodyK_le next first (Ws.map Ms.dat) HW.out (k + 1) (by omega))
      have HMD : Hid (m.n = m.dat.length) := Lib.hid hok.len
      have HRM : Hid (∀ w', Below B0 w w' → Rd w' B0 1 m.A m.n (bytesV m.dat)) := Lib.hid fun w' hb' => ((HST.out.okW m (List.mem_of_getElem? hm)).tr.rd.more (Nat.le_of_eq HB0.out.symm)).below hb'
      have hkq : (k : Int) < q := by omega
      clear hm hok hrw hsucc
      generalize m.A = mA at *
      generalize m.n = mn at *
      generalize m.c = mc at *
      have HBG : Hid (bytesV (bigB mn 2) = [.int .u8 ((mn : Int) / 256), .int .u8 ((mn : Int) % 256)]) := Lib.hid (by
        simp only [bigB, bytesV, List.map_cons, List.map_nil, Nat.pow_zero, Nat.div_one, Nat.pow_one]
        rw [show mn / 256 % 256 = mn / 256 by omega]
        rfl)
      have HN2 : Hid ((bodyK next first (Ws.map Ms.dat) (k + 1)).length = n + 2 + mn) := Lib.hid (by rw [HSU.out, List.length_append, List.length_append, bigB_length, ← HN.out, ← HMD.out])
      have hn2 : n + 2 + mn ≤ 8025 := by rw [← HN2.out]; exact HLE.out
      go_wp2_with
        (first
          | (at_builtin
             refine wpList_append_rd _ rfl (.tmp 41) (.tmp 49) _ rfl B0 5 i0 (.int .u8 0) 1 1 Try.underlying30 hi0 hz0 hz1 hz2 rfl (by decide) (.slice A n c) n _ rfl (hown.alloc _) (wr.heap.size + 1) (some ⟨wr.heap.size, 0, none⟩) 2 2 [.int .u8 ((mn : Int) / 256), .int .u8 ((mn : Int) % 256)] rfl (Rd.lit wr _ 5) ?c1 ?c2 ?c3 ?c4 ?_
             case c1 => simp [Value.oneCell']
             case c2 => unfold maxLen; omega
             case c3 => omega
             case c4 => simp; omega
             intro A4 c4 w4 hown4 hg4 hat4
             have hb4 := (hb.alloc hsz (.cells #[.int .u8 ((mn : Int) / 256), .int .u8 ((mn : Int) % 256)] 5)).grown hg4 (by simp; omega) (fun q hq => (hown.lt q hq).1)
             have hsz4 : B0 ≤ w4.heap.size := by have := hb4.size; have := HB0.out; omega
             have HRM4 := Lib.hid (HRM.out w4 hb4)
             clear hg4 hat4)
          | (at_builtin
             refine wpList_append_rd _ rfl (.tmp 50) (.tmp 51) _ rfl B0 5 i0 (.int .u8 0) 1 1 Try.underlying30 hi0 hz0 hz1 hz2 rfl (by decide) (.slice A4 (n + 2) c4) (n + 2) _ rfl hown4 B0 mA mn mc (bytesV m.dat) rfl HRM4.out (bytesV_one _) ?d2 ?d3 ?d4 ?_
             case d2 => unfold maxLen; omega
             case d3 => omega
             case d4 => exact hsz4
             intro A5 c5 w5 hown5 hg5 hat5
             have hb5 := hb4.grown hg5 hsz4 (fun q hq => (hown4.lt q hq).1)
             clear hg5 hat5))
      go_roundw
      case rel => exact ⟨k + 1, n + 2 + mn, A5, c5, by omega, by go_num, rfl, hn2, Lib.hid HN2.out.symm, by rw [HSU.out, bytesV_append, bytesV_append, HBG.out]; exact hown5, hb5⟩
      case measure => simp [intOf]; omega
    · obtain rfl : k = t := by omega
      have hbody : bodyK next first (Ws.map Ms.dat) k = bodyB next first (Ws.map Ms.dat) := by
        unfold bodyK bodyB
        congr 2
        by_cases h8 : q ≤ 8
        · rw [List.take_of_length_le (by have := HT.out; have := HQ.out; simp; omega), List.take_of_length_le (by have := HQ.out; simp; omega)]
        · rw [show k = 8 by have := HT.out; omega]
      have hpk : pktB next first (Ws.map Ms.dat) = bodyB next first (Ws.map Ms.dat) ++ bigB (sumBy (bodyB next first (Ws.map Ms.dat))).toNat 8 := rfl
      rw [hbody] at hown HN
      obtain ⟨L, hL⟩ : ∃ L, L = bodyB next first (Ws.map Ms.dat) := ⟨_, rfl⟩
      rw [← hL] at hown HN hpk
      have hr := sumBy_rng L
      obtain ⟨S, hS⟩ := Int.eq_ofNat_of_zero_le hr.1
      rw [hS] at hr
      rw [hS, Int.toNat_natCast] at hpk
      have hS2 : S < 18446744073709551616 := by have := hr.2; omega
      have hcapn := (own_cap hown)
      have HPK := Lib.hid hpk
      have hsum := sumBytes_any A n c wr.heap.size L wr (Rd.of_own hown) HN.out hcapn.1 hcapn.2
      rw [hS] at hsum
      have HSUM := Lib.hid hsum
      clear hbody hL hr hS hsum hcapn hpk
      go_wp2_with fail
      refine HSUM.out.mono ?_
      rintro e w6 ⟨rfl, m6, rfl⟩
      have hown6 : (wr.drewN m6).ownsRow B0 5 1 (.slice A n c) n (bytesV L) := hown
      have hb6 : Below B0 w (wr.drewN m6) := ⟨hb.os, hb.tape, hb.output, hb.size, hb.block⟩
      clear hown hb HSUM hsz
      generalize wr.drewN m6 = w6 at *
      go_wp2_with fail
      go_loopw [4, 8] (fun b i w7 => ∃ (j d : Nat) (A : Option Addr) (c : Nat), Hid (j + d = 8) ∧ d ≤ 8 ∧ i = .int .i64 (8 * (d : Int) - 8) ∧ b = .slice A (n + j) c ∧ w7.ownsRow B0 5 1 (.slice A (n + j) c) (n + j) (bytesV (L ++ (bigB S 8).take j)) ∧ Below B0 w w7) (fun _ i _ => (intOf i + 8).toNat)
      case atStart => exact ⟨0, 8, A, c, Lib.hid rfl, Nat.le_refl _, rfl, rfl, by simpa using hown6, hb6⟩
      case round =>
        obtain ⟨j, d, A7, c7, HJ, hd8, hi, rfl, hown7, hb7⟩ := hrel
        clear hown6 hb6
        cases d with
        | succ d =>
          rw [show (8 * ((d + 1 : Nat) : Int) - 8) = 8 * (d : Int) by omega] at hi
          subst hi
          have hd0 : 0 ≤ 8 * (d : Int) := by omega
          have hd64 : 8 * (d : Int) < 64 := by omega
          have HBT : Hid (bytesV (L ++ (bigB S 8).take (j + 1)) = bytesV (L ++ (bigB S 8).take j) ++ [.int .u8 ((S : Int) / 2 ^ (8 * d) % 256)]) := Lib.hid (by
            rw [bigB_take S j d HJ.out, ← List.append_assoc, bytesV_append]
            congr 1)
          have hj8 : j ≤ 8 := by have := HJ.out; omega
          have hsz7 : B0 ≤ wr.heap.size := by have := hb7.size; have := HB0.out; omega
          go_wp2_with
            (at_builtin
             go_must (refine wpList_append_one _ rfl (.tmp 60) (.tmp 65) _ rfl B0 5 i0 (.int .u8 0) 1 1 Try.underlying30 hi0 hz0 hz1 hz2 rfl (by decide) (.slice A7 (n + j) c7) (n + j) _ rfl (hown7.alloc _) wr.heap.size 1 5 #[.int .u8 ((S : Int) / 2 ^ (8 * d) % 256)] rfl (Bk.new _ _ _) rfl ?c1 (n + (j + 1)) ?c5 ?c2 ?c3 ?c4 ?_)
             case c1 => simp [Value.oneCell']
             case c2 => unfold maxLen; omega
             case c3 => omega
             case c4 => simp; omega
             case c5 => omega
             intro g8 d8 w8 hown8 hg8 hat8
             have hb8 := (hb7.alloc hsz7 (.cells #[.int .u8 ((S : Int) / 2 ^ (8 * d) % 256)] 5)).grown hg8 (by simp; omega) (fun q hq => (hown7.lt q hq).1)
             clear hg8 hat8)
          go_roundw
          case rel => exact ⟨j + 1, d, _, d8, Lib.hid (by have := HJ.out; omega), by omega, by go_num, rfl, by rw [HBT.out]; exact hown8, hb8⟩
          case measure => simp [intOf]; omega
        | zero =>
          subst hi
          have hneg : ¬ (0 : Int) ≤ 8 * ((0 : Nat) : Int) - 8 := by omega
          go_wp2_with fail
          go_ret
          have hj := HJ.out
          obtain rfl : j = 8 := by omega
          rw [List.take_of_length_le (by rw [bigB_length]; exact Nat.le_refl _), ← HPK.out] at hown7
          have hl : n + 8 = (pktB next first (Ws.map Ms.dat)).length := by rw [HPK.out, List.length_append, bigB_length, HN.out]
          rw [hl] at hown7
          exact ⟨A7, c7, by rw [← hl]; rfl, by rw [← HB0.out]; exact hown7, by rw [← HB0.out]; exact hb7⟩
end Go.Proofs.Ytlgcdcjfobfoiaa
