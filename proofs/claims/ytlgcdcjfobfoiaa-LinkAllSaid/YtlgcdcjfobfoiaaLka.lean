/-
  The contract of the reference's Packet. Conditions: a half in memory, messages of at most 1000 bytes.
-/
import Derived.Test.YtlgcdcjfobfoiaaLk9
namespace Go.Proofs.Ytlgcdcjfobfoiaa
open Go.RowKit
set_option maxRecDepth 100000

theorem upto_run (T : TypeId) (e : TypeId) (hT : Try.prog.underlying T = some (.slice e)) (he : Try.prog.elem T = e) (hs : ∀ w, (Go.sizeOf e).run Try.prog w = .ok 1 w) (A : Option Addr) (n c k : Nat) (hk : k ≤ c) (wx : World) : (Instr.sliceAt T (.slice A n c) none (some (.int .i64 (k : Int))) none).run Try.prog wx = .ok (.slice A k c) wx := by
  have hT' : Try.prog.underlying T = some (.slice (Try.prog.elem T)) := by rw [he]; exact hT
  rw [run_sliceAt_slice wx T _ _ _ _ hT', run_slice_h wx T A n c hT' .i64 (k : Int) (by omega) (by omega), he, hs]
  have h0 : ∀ a : Addr, a.add 0 = a := fun a => by obtain ⟨b, o, x⟩ := a; cases x <;> simp [Addr.add]
  have ha : (if c = 0 then A else A.map (·.add (0 * 1))) = A := by
    split
    · rfl
    · cases A with
      | none => rfl
      | some a => simp [h0]
  simp only [Result.andThen, sliced, Int.toNat_natCast, ha, Nat.sub_zero]
theorem upto_74 (A : Option Addr) (n c k : Nat) (hk : k ≤ c) (wx : World) : (Instr.sliceAt 74 (.slice A n c) none (some (.int .i64 (k : Int))) none).run Try.prog wx = .ok (.slice A k c) wx :=
  upto_run 74 30 Try.underlying74 (by kernel_rfl) size30 A n c k hk wx
theorem upto_30 (A : Option Addr) (n c k : Nat) (hk : k ≤ c) (wx : World) : (Instr.sliceAt 30 (.slice A n c) none (some (.int .i64 (k : Int))) none).run Try.prog wx = .ok (.slice A k c) wx :=
  upto_run 30 5 Try.underlying30 (by kernel_rfl) size5 A n c k hk wx
theorem bodyK_lt (a b : Nat) (W : List (List Nat)) (h : ∀ m ∈ W, ∀ x ∈ m, x < 256) (k : Nat) : ∀ x ∈ bodyK a b W k, x < 256 := by
  intro x hx
  unfold bodyK at hx
  rcases List.mem_append.1 hx with hx | hx
  · exact headB_lt _ _ _ (by omega) x hx
  · exact flat_lt _ (fun m hm => h m (List.mem_of_mem_take hm)) x hx
theorem bodyK_end (a b t : Nat) (W : List (List Nat)) (ht : t = min W.length 8) : bodyK a b W t = bodyB a b W := by
  unfold bodyK bodyB
  congr 2
  by_cases h8 : W.length ≤ 8
  · rw [List.take_of_length_le (by omega), List.take_of_length_le (by omega)]
  · rw [show t = 8 by omega]

section
variable {w w1 w2 : World} {B0 k b t n1 n2 d1 d2 : Nat} {o : Obj} {A1 A2 : Option Addr} {l1 l2 : List Nat}
theorem bel_d (h : Below (w.drewN k).heap.size (w.drewN k) w1) (hB : B0 = w.heap.size) : Below B0 w w1 := by
  subst hB; exact ⟨h.os, h.tape, h.output, h.size, h.block⟩
theorem bel_da (h : Below ((w.drewN k).alloc o).heap.size ((w.drewN k).alloc o) w1) (hB : B0 = w.heap.size) : Below B0 w w1 := by
  subst hB
  exact (((⟨rfl, rfl, rfl, Nat.le_refl _, fun _ _ => rfl⟩ : Below w.heap.size w (w.drewN k))).alloc (Nat.le_refl _) o).trans (h.mono (by simp [World.drewN]))
theorem bel_n (h0 : Below B0 w w1) (h : Below w1.heap.size w1 w2) (hB : B0 = w.heap.size) : Below B0 w w2 := h0.trans (h.mono (by have := h0.size; omega))
theorem bel_na (h0 : Below B0 w w1) (h : Below (w1.alloc o).heap.size (w1.alloc o) w2) (hB : B0 = w.heap.size) : Below B0 w w2 :=
  (h0.alloc (by have := h0.size; omega) o).trans (h.mono (by have := h0.size; simp; omega))
def u8obj (t : Nat) : Obj := .cells #[.int .u8 t] 5
theorem Tr.one (w : World) (t : Nat) : Tr (w.alloc (.cells #[.int .u8 t] 5)) 5 1 (some ⟨w.heap.size, 0, none⟩) 1 (bytesV [t]) :=
  ⟨rfl, fun _ => ⟨_, _, _, rfl, Bk.new _ _ _, fun j u hu => by
    rw [Nat.zero_add]; cases j with
    | zero => simpa [bytesV] using hu
    | succ j => simp [bytesV] at hu⟩⟩
theorem cat_O1 (t1 : Tr w1 5 1 A1 4 (bytesV l1)) (t2 : Tr w2 5 1 A2 4 (bytesV l2)) (hl1 : l1.length = 4 ∧ ∀ b ∈ l1, b < 256) (hl2 : l2.length = 4 ∧ ∀ b ∈ l2, b < 256) (hc1 : 4 ≤ d1 ∧ d1 ≤ 9223372036854775807) (hc2 : 4 ≤ d2 ∧ d2 ≤ 9223372036854775807) (ht : t < 256) (hB : B0 ≤ w2.heap.size) (hb2 : Below w1.heap.size w1 w2) :
    Calls Try.prog 77 #[.slice (some ⟨w2.heap.size + 1, 0, none⟩) 3 3] ((w2.alloc (.cells #[.int .u8 t] 5)).alloc (.cells #[.slice A1 4 d1, .slice A2 4 d2, .slice (some ⟨w2.heap.size, 0, none⟩) 1 1] 30)) (NumP w2 B0 9 (l1 ++ l2 ++ [t])) := by
  have hba := (Below.refl w2.heap.size w2).alloc (Nat.le_refl _) (.cells #[.int .u8 t] 5)
  have h := concat3_any (B0 := B0) ⟨A1, 4, d1, l1⟩ ⟨A2, 4, d2, l2⟩ ⟨some ⟨w2.heap.size, 0, none⟩, 1, 1, [t]⟩ (w2.alloc (.cells #[.int .u8 t] 5)) ((MsOk.below ⟨t1, hl1.1.symm, hc1.1, hc1.2, hl1.2⟩ hb2).below hba) (MsOk.below ⟨t2, hl2.1.symm, hc2.1, hc2.2, hl2.2⟩ hba) ⟨Tr.one w2 t, rfl, Nat.le_refl _, by show 1 ≤ 9223372036854775807; omega, by simpa using ht⟩ (by show 0 < 4 + 4 + 1; omega) (by show 4 + 4 + 1 ≤ 1000000; omega) (by simp; omega)
  rw [show (w2.alloc (.cells #[.int .u8 t] 5)).heap.size = w2.heap.size + 1 by simp] at h
  refine h.mono ?_
  rintro e w' ⟨A, c, rfl, ho, hb⟩
  exact ⟨A, c, rfl, ho, (hba.mono hB).trans hb⟩
theorem cat_O2 (t1 : Tr w1 5 1 A1 4 (bytesV l1)) (t2 : Tr w2 5 1 A2 4 (bytesV l2)) (hl1 : l1.length = 4 ∧ ∀ b ∈ l1, b < 256) (hl2 : l2.length = 4 ∧ ∀ b ∈ l2, b < 256) (hc1 : 4 ≤ d1 ∧ d1 ≤ 9223372036854775807) (hc2 : 4 ≤ d2 ∧ d2 ≤ 9223372036854775807) (ht : t < 256) (hB : B0 ≤ w2.heap.size) (hb2 : Below (w1.alloc (.cells #[.int .u8 t] 5)).heap.size (w1.alloc (.cells #[.int .u8 t] 5)) w2) :
    Calls Try.prog 77 #[.slice (some ⟨w2.heap.size, 0, none⟩) 3 3] (w2.alloc (.cells #[.slice A1 4 d1, .slice A2 4 d2, .slice (some ⟨w1.heap.size, 0, none⟩) 1 1] 30)) (NumP w2 B0 9 (l1 ++ l2 ++ [t])) := by
  have hba := (Below.refl w1.heap.size w1).alloc (Nat.le_refl _) (.cells #[.int .u8 t] 5)
  exact concat3_any (B0 := B0) ⟨A1, 4, d1, l1⟩ ⟨A2, 4, d2, l2⟩ ⟨some ⟨w1.heap.size, 0, none⟩, 1, 1, [t]⟩ w2 ((MsOk.below ⟨t1, hl1.1.symm, hc1.1, hc1.2, hl1.2⟩ hba).below hb2) ⟨t2, hl2.1.symm, hc2.1, hc2.2, hl2.2⟩ ⟨(Tr.one w1 t).below hb2, rfl, Nat.le_refl _, by show 1 ≤ 9223372036854775807; omega, by simpa using ht⟩ (by show 0 < 4 + 4 + 1; omega) (by show 4 + 4 + 1 ≤ 1000000; omega) hB
theorem cat_O3 (t1 : Tr w1 5 1 A1 4 (bytesV l1)) (t2 : Tr w2 5 1 A2 4 (bytesV l2)) (hl1 : l1.length = 4 ∧ ∀ b ∈ l1, b < 256) (hl2 : l2.length = 4 ∧ ∀ b ∈ l2, b < 256) (hc1 : 4 ≤ d1 ∧ d1 ≤ 9223372036854775807) (hc2 : 4 ≤ d2 ∧ d2 ≤ 9223372036854775807) (ht : t < 256) (hB : B0 ≤ w2.heap.size) (hb1 : Below ((w.drewN k).alloc (.cells #[.int .u8 t] 5)).heap.size ((w.drewN k).alloc (.cells #[.int .u8 t] 5)) w1) (hb2 : Below w1.heap.size w1 w2) :
    Calls Try.prog 77 #[.slice (some ⟨w2.heap.size, 0, none⟩) 3 3] (w2.alloc (.cells #[.slice A1 4 d1, .slice A2 4 d2, .slice (some ⟨w.heap.size, 0, none⟩) 1 1] 30)) (NumP w2 B0 9 (l1 ++ l2 ++ [t])) :=
  concat3_any (B0 := B0) ⟨A1, 4, d1, l1⟩ ⟨A2, 4, d2, l2⟩ ⟨some ⟨w.heap.size, 0, none⟩, 1, 1, [t]⟩ w2 (MsOk.below ⟨t1, hl1.1.symm, hc1.1, hc1.2, hl1.2⟩ hb2) ⟨t2, hl2.1.symm, hc2.1, hc2.2, hl2.2⟩ ⟨((Tr.one (w.drewN k) t).below hb1).below hb2, rfl, Nat.le_refl _, by show 1 ≤ 9223372036854775807; omega, by simpa using ht⟩ (by show 0 < 4 + 4 + 1; omega) (by show 4 + 4 + 1 ≤ 1000000; omega) hB
end

set_option maxHeartbeats 3200000 in
theorem packet_any {base : Nat} {F : List Nat} {g ack came : Nat} {S N : List (List Nat)} (w : World) (h : HalfS w base F g ack came S N) (hW : ∀ m ∈ S, m.length ≤ 1000) (hS : S.length ≤ 1000000) (ha : ack ≤ S.length) (hx : came ≤ 1000000) :
    Calls Try.prog 47 #[.pointer (some ⟨g, 0, none⟩)] w (RetS w 5 1 (pktB came ack (S.drop ack)).length (bytesV (pktB came ack (S.drop ack)))) := by
  obtain ⟨i0, hi0, hz0, hz1, hz2⟩ := info_parts T.info5
  obtain ⟨Ss, Ns, SA, NA, sc, nc, h, rfl, rfl⟩ := h
  rw [List.length_map] at ha hS
  obtain ⟨B0, hB0⟩ : ∃ B0, B0 = w.heap.size := ⟨_, rfl⟩
  obtain ⟨p, hp⟩ : ∃ p, p = Ss.length := ⟨_, rfl⟩
  have c0 : w.cell? ⟨g, 0, none⟩ = some (.slice SA Ss.length sc) := h.bk.cell 0
  have c1 : w.cell? ⟨g, 1, none⟩ = some (.int .i64 ack) := h.bk.cell 1
  have c2 : w.cell? ⟨g, 2, none⟩ = some (.int .i64 came) := h.bk.cell 2
  have hcap := own_cap h.sent
  have hrd := (Rd.of_own h.sent).cut (c := sc) ha hcap.1
  rw [← hp] at c0 hcap hrd ha hS
  obtain ⟨W, hWd⟩ : ∃ W, W = Ss.drop ack := ⟨_, rfl⟩
  have hrdW : Rd w B0 1 (cutA SA sc ack) (p - ack) (msV W) := by rw [hWd, hB0]; unfold msV at hrd ⊢; rw [List.map_drop]; exact hrd
  have hokW : ∀ m ∈ W, MsOk w m := fun m hm => h.okS m (List.mem_of_mem_drop (hWd ▸ hm))
  have hleW : ∀ m ∈ W.map Ms.dat, m.length ≤ 1000 := fun m hm => hW m (by
    obtain ⟨x, hx, rfl⟩ := List.mem_map.1 hm
    exact List.mem_map_of_mem (List.mem_of_mem_drop (hWd ▸ hx)))
  have hWS : (Ss.map Ms.dat).drop ack = W.map Ms.dat := by rw [hWd, List.map_drop]
  have hWl : W.length = p - ack := by rw [hWd, List.length_drop, hp]
  rw [hWS]
  have hcut := cut_74 SA p sc ack ha
  have hBk := h.bk
  rw [← hp] at hBk
  have hgl := h.bk.lt
  have HBK := Lib.hid hBk
  have HRD := Lib.hid hrdW
  have HOK := Lib.hid hokW
  have HLE := Lib.hid hleW
  have HWL := Lib.hid hWl
  have HB0 := Lib.hid hB0
  have hcm : sc ≤ 9223372036854775807 := hcap.2
  obtain ⟨hcap1, _⟩ := hcap
  clear h hrd hrdW hokW hleW hWl hWS hWd hB0 hBk hp hW
  generalize cutA SA sc ack = WA at *
  obtain ⟨rc, hrc⟩ : ∃ rc, rc = sc - ack := ⟨_, rfl⟩
  obtain ⟨r, hr⟩ : ∃ r, r = p - ack := ⟨_, rfl⟩
  rw [← hr] at hcut HRD HWL
  rw [← hrc] at hcut
  have hrrc : r ≤ rc := by omega
  have hrc9 : rc ≤ 9223372036854775807 := by omega
  have hr6 : r ≤ 1000000 := by omega
  clear hrc hr hcap1 hcm
  have HB : Hid (∀ s wx, s < 18446744073709551616 → Calls Try.prog 78 #[.int .u64 (s : Nat), .int .i64 4] wx (RetT wx 5 1 4 (bytesV (bigB s 4)))) := Lib.hid fun s wx hs => big_any s 4 wx hs (by omega)
  obtain ⟨t, hcase⟩ : ∃ t, (r ≤ 8 ∧ t = r) ∨ (8 < r ∧ t = 8) := by
    by_cases h8 : r ≤ 8
    · exact ⟨r, .inl ⟨h8, rfl⟩⟩
    · exact ⟨8, .inr ⟨by omega, rfl⟩⟩
  have htr : t ≤ r := by omega
  have ht8 : t ≤ 8 := by omega
  have HT : Hid (t = min r 8) := Lib.hid (by omega)
  have ht256 : (t : Int) < 256 := by omega
  have HBL : Hid (((bigB came 4).length = 4 ∧ ∀ b ∈ bigB came 4, b < 256) ∧ ((bigB ack 4).length = 4 ∧ ∀ b ∈ bigB ack 4, b < 256)) := Lib.hid ⟨⟨bigB_length _ _, bigB_lt _ _⟩, ⟨bigB_length _ _, bigB_lt _ _⟩⟩
  have ht255 : t < 256 := by omega
  have wu1 : IntKind.u64.wrap (came : Int) = (came : Int) := by rw [IntKind.wrap_u64]; omega
  have wu2 : IntKind.u64.wrap (ack : Int) = (ack : Int) := by rw [IntKind.wrap_u64]; omega
  have wu3 : IntKind.u8.wrap (t : Int) = (t : Int) := by rw [IntKind.wrap_u8]; omega
  rcases hcase with ⟨h8, htr'⟩ | ⟨h8, ht⟩
  · obtain rfl := htr'
    go_enter Try.func47, Try.ntmps47
    go_wp2_with fail
    go_quiet (fail)
    go_wp2_with fail
    go_region_held3 (fun w' => w'.cell? ⟨g, 1, none⟩ = some (.int .i64 ack) ∧ w'.cell? ⟨g, 2, none⟩ = some (.int .i64 came)) (first | go_keep | (with_reducible exact ⟨k0, k2⟩) | (with_reducible exact ⟨m0, m2⟩) | (with_reducible exact ⟨p0, p2⟩))
      (first
        | (go_at_call 78
           (with_reducible refine (HB.out came _ (by omega)).mono ?_)
           rintro e w1 ⟨A1, d1, rfl, hc1, hc1', ht1, hb1⟩
           have hB1 : Below B0 w w1 := (by first | exact bel_d hb1 HB0.out | exact bel_da hb1 HB0.out)
           have k0 : w1.cell? ⟨g, 1, none⟩ = some (.int .i64 ack) := (HBK.out.below hB1 (by have := HB0.out; omega)).cell 1
           have k2 : w1.cell? ⟨g, 2, none⟩ = some (.int .i64 came) := (HBK.out.below hB1 (by have := HB0.out; omega)).cell 2)
        | (go_at_call 78
           (with_reducible refine (HB.out ack _ (by omega)).mono ?_)
           rintro e w2 ⟨A2, d2, rfl, hc2, hc2', ht2, hb2⟩
           have hB2 : Below B0 w w2 := (by first | exact bel_n hB1 hb2 HB0.out | exact bel_na hB1 hb2 HB0.out)
           have hs2 : B0 ≤ w2.heap.size := (by have := hB2.size; have := HB0.out; omega)
           have m0 : w2.cell? ⟨g, 1, none⟩ = some (.int .i64 ack) := (HBK.out.below hB2 (by have := HB0.out; omega)).cell 1
           have m2 : w2.cell? ⟨g, 2, none⟩ = some (.int .i64 came) := (HBK.out.below hB2 (by have := HB0.out; omega)).cell 2)
        | (go_at_call 77
           (with_reducible refine (cat_O1 ht1 ht2 HBL.out.1 HBL.out.2 ⟨hc1, hc1'⟩ ⟨hc2, hc2'⟩ ht255 hs2 hb2).mono ?_)
           rintro e w3 ⟨A3, d3, rfl, ho3, hb3⟩
           have p0 : w3.cell? ⟨g, 1, none⟩ = some (.int .i64 ack) := (HBK.out.below (hB2.trans hb3) (by have := HB0.out; omega)).cell 1
           have p2 : w3.cell? ⟨g, 2, none⟩ = some (.int .i64 came) := (HBK.out.below (hB2.trans hb3) (by have := HB0.out; omega)).cell 2)
        | (go_at_call 77
           (with_reducible refine (cat_O2 ht1 ht2 HBL.out.1 HBL.out.2 ⟨hc1, hc1'⟩ ⟨hc2, hc2'⟩ ht255 hs2 hb2).mono ?_)
           rintro e w3 ⟨A3, d3, rfl, ho3, hb3⟩
           have p0 : w3.cell? ⟨g, 1, none⟩ = some (.int .i64 ack) := (HBK.out.below (hB2.trans hb3) (by have := HB0.out; omega)).cell 1
           have p2 : w3.cell? ⟨g, 2, none⟩ = some (.int .i64 came) := (HBK.out.below (hB2.trans hb3) (by have := HB0.out; omega)).cell 2)
        | (go_at_call 77
           (with_reducible refine (cat_O3 ht1 ht2 HBL.out.1 HBL.out.2 ⟨hc1, hc1'⟩ ⟨hc2, hc2'⟩ ht255 hs2 hb1 hb2).mono ?_)
           rintro e w3 ⟨A3, d3, rfl, ho3, hb3⟩
           have p0 : w3.cell? ⟨g, 1, none⟩ = some (.int .i64 ack) := (HBK.out.below (hB2.trans hb3) (by have := HB0.out; omega)).cell 1
           have p2 : w3.cell? ⟨g, 2, none⟩ = some (.int .i64 came) := (HBK.out.below (hB2.trans hb3) (by have := HB0.out; omega)).cell 2))
    all_goals
      have hB3 : Below B0 w w3 := hB2.trans hb3
      have ho3' : w3.ownsRow B0 5 1 (.slice A3 9 d3) 9 (bytesV (bodyK came ack (W.map Ms.dat) 0)) := by
        have h1 : bodyK came ack (W.map Ms.dat) 0 = bigB came 4 ++ bigB ack 4 ++ [t] := by
          simp only [bodyK, headB, List.take_zero, List.flatMap_nil, List.append_nil, List.length_map, HWL.out]
          rw [← HT.out]
        rw [h1]; exact ho3
      clear ho3 hb3 p0 p2 m0 m2 k0 k2 ht1 ht2 hb1 hb2 hc1 hc1' hc2 hc2' hB1 hB2 hs2 c0 c1 c2 hcut HBL HB
      go_wp2_with fail
      go_loopw [4, 6, 41] (fun b _ i wr => ∃ (k n : Nat) (A : Option Addr) (c : Nat), k ≤ t ∧ i = .int .i64 k ∧ b = .slice A n c ∧ n ≤ 8025 ∧ Hid (n = (bodyK came ack (W.map Ms.dat) k).length) ∧ wr.ownsRow B0 5 1 (.slice A n c) n (bytesV (bodyK came ack (W.map Ms.dat) k)) ∧ Below B0 w wr) (fun _ _ i _ => t - (intOf i).toNat)
      case atStart => exact ⟨0, 9, A3, d3, Nat.zero_le _, rfl, rfl, by omega, Lib.hid (by simp [bodyK, headB_length]), ho3', hB3⟩
      case round =>
        obtain ⟨k, n, A, c, hk, rfl, rfl, hn, HN, hown, hb⟩ := hrel
        clear ho3' hB3
        have hsz : B0 ≤ wr.heap.size := by have := hb.size; have := HB0.out; omega
        by_cases hlt : k < t
        · obtain ⟨m, hm⟩ : ∃ m, W[k]? = some m := ⟨_, List.getElem?_eq_getElem (by have := HWL.out; omega)⟩
          obtain ⟨xb, xo, rfl, _, cx⟩ := (HRD.out.below hb).at1 (Nat.lt_of_lt_of_le hlt htr) (msV_get hm)
          have hok := (HOK.out m (List.mem_of_getElem? hm)).below (hb.mono (by have := HB0.out; omega))
          have hm1 : m.n ≤ 1000 := by rw [hok.len]; exact HLE.out m.dat (List.mem_map_of_mem (List.mem_of_getElem? hm))
          have hsucc := bodyK_succ came ack (W := W.map Ms.dat) (k := k) (m := m.dat) (by rw [List.getElem?_map, hm]; rfl)
          rw [← hok.len] at hsucc
          have HLT : Hid (∀ x ∈ bodyK came ack (W.map Ms.dat) k, x < 256) := Lib.hid (bodyK_lt came ack _ (fun y hy => by obtain ⟨z, hz, rfl⟩ := List.mem_map.1 hy; exact (HOK.out z hz).lt) k)
          have hle := bodyK_le came ack (W.map Ms.dat) HLE.out (k + 1) (by omega)
          have hl2 : (bodyK came ack (W.map Ms.dat) (k + 1)).length = n + 2 + m.n := by rw [hsucc, List.length_append, List.length_append, bigB_length, ← HN.out, ← hok.len]
          rw [hl2] at hle
          have HSU := Lib.hid hsucc
          have HL2 := Lib.hid hl2
          have HMO := Lib.hid hok
          have HBG := Lib.hid (big_any m.n 2 wr (by omega) (by omega))
          have hcap := own_cap hown
          have HMB : Hid (MsOk wr ⟨A, n, c, bodyK came ack (W.map Ms.dat) k⟩) := Lib.hid ⟨Tr.of_own hown, HN.out, hcap.1, hcap.2, HLT.out⟩
          clear hm hok hsucc hl2 hcap
          have HM : Hid (m = ⟨m.A, m.n, m.c, m.dat⟩) := Lib.hid rfl
          generalize m.A = mA at *
          generalize m.n = mn at *
          generalize m.c = mc at *
          go_wp2_with fail
          refine HBG.out.mono ?_
          rintro e w1 ⟨A1, d1, rfl, hc1, hc1', ht1, hb1⟩
          have hbw := hb.trans (hb1.mono hsz)
          have hs1 : B0 ≤ w1.heap.size := by have := hbw.size; have := HB0.out; omega
          have hm2 := HMO.out.below hb1
          rw [HM.out] at hm2
          have hcat := concat3_any (B0 := B0) ⟨A, n, c, bodyK came ack (W.map Ms.dat) k⟩ ⟨A1, 2, d1, bigB mn 2⟩ ⟨mA, mn, mc, m.dat⟩ w1 (HMB.out.below hb1) ⟨ht1, (bigB_length _ _).symm, hc1, hc1', bigB_lt _ _⟩ hm2 (by show 0 < n + 2 + mn; omega) (by show n + 2 + mn ≤ 1000000; omega) hs1
          have HCAT := Lib.hid hcat
          clear hcat hm2 hc1 hc1' ht1 hb1 hown hb HMB HBG HMO HM
          go_wp2_with fail
          refine HCAT.out.mono ?_
          rintro e w5 ⟨A5, c5, rfl, hown5, hb5⟩
          have hb6 := hbw.trans hb5
          rw [show bodyK came ack (W.map Ms.dat) k ++ bigB mn 2 ++ m.dat = bodyK came ack (W.map Ms.dat) (k + 1) from HSU.out.symm] at hown5
          clear HCAT hb5 hbw hs1
          go_wp2_with fail
          go_roundw
          case rel => exact ⟨k + 1, n + 2 + mn, A5, c5, by omega, by go_num, rfl, hle, Lib.hid HL2.out.symm, hown5, hb6⟩
          case measure => simp [intOf]; omega
        · obtain rfl : k = t := by omega
          rw [bodyK_end came ack k (W.map Ms.dat) (by rw [List.length_map, HWL.out, ← HT.out])] at hown HN
          have hpk : pktB came ack (W.map Ms.dat) = bodyB came ack (W.map Ms.dat) ++ bigB (sumBy (bodyB came ack (W.map Ms.dat))).toNat 8 := rfl
          obtain ⟨L, hL⟩ : ∃ L, L = bodyB came ack (W.map Ms.dat) := ⟨_, rfl⟩
          rw [← hL] at hown HN hpk
          have hr := sumBy_rng L
          obtain ⟨S, hS'⟩ := Int.eq_ofNat_of_zero_le hr.1
          rw [hS'] at hr
          rw [hS', Int.toNat_natCast] at hpk
          have hS2 : S < 18446744073709551616 := by have := hr.2; omega
          have hcapn := (own_cap hown)
          have HPK := Lib.hid hpk
          have hsum := sumBytes_any A n c wr.heap.size L wr (Rd.of_own hown) HN.out hcapn.1 hcapn.2
          rw [hS'] at hsum
          have HSUM := Lib.hid hsum
          have HBG : Hid (∀ wx, Calls Try.prog 78 #[.int .u64 (S : Nat), .int .i64 8] wx (RetT wx 5 1 8 (bytesV (bigB S 8)))) := Lib.hid fun wx => big_any S 8 wx hS2 (by omega)
          clear hL hr hS' hsum hcapn hpk
          go_wp2_with fail
          refine HSUM.out.mono ?_
          rintro e w6 ⟨rfl, m6, rfl⟩
          have hown6 : (wr.drewN m6).ownsRow B0 5 1 (.slice A n c) n (bytesV L) := hown
          have hb6 : Below B0 w (wr.drewN m6) := ⟨hb.os, hb.tape, hb.output, hb.size, hb.block⟩
          clear hown hb HSUM hsz
          generalize wr.drewN m6 = w6 at *
          have hsz6 : B0 ≤ w6.heap.size := by have := hb6.size; have := HB0.out; omega
          go_wp2_with fail
          refine (HBG.out _).mono ?_
          rintro e w7 ⟨A7, d7, rfl, _, _, ht7, hb7⟩
          have hown7 := own_keep hown6 hb7
          have hb8 := hb6.trans (hb7.mono hsz6)
          have hsz8 : B0 ≤ w7.heap.size := by have := hb8.size; have := HB0.out; omega
          clear hown6 hb6 hb7 HBG
          go_wp2_with
            (at_builtin
             go_must (refine wpList_append_rd _ rfl (.tmp 54) (.tmp 57) _ rfl B0 5 i0 (.int .u8 0) 1 1 Try.underlying30 hi0 hz0 hz1 hz2 rfl (by decide) (.slice A n c) n _ rfl hown7 w7.heap.size A7 8 d7 (bytesV (bigB S 8)) rfl ht7.rd (bytesV_one _) ?c2 ?c3 ?c4 ?_)
             case c2 => unfold maxLen; omega
             case c3 => omega
             case c4 => exact hsz8
             intro A9 c9 w9 hown9 hg9 hat9
             have hb9 := hb8.grown hg9 hsz8 (fun q hq => (hown7.lt q hq).1))
          go_ret
          rw [← bytesV_append, ← HPK.out] at hown9
          have hl : n + 8 = (pktB came ack (W.map Ms.dat)).length := by rw [HPK.out, List.length_append, bigB_length, HN.out]
          rw [hl] at hown9
          exact ⟨A9, c9, by rw [← hl]; rfl, by rw [← HB0.out]; exact hown9, by rw [← HB0.out]; exact hb9⟩
  · have hcut8 : ∀ wx, (Instr.sliceAt 74 (.slice WA r rc) none (some (.int .i64 8)) none).run Try.prog wx = .ok (.slice WA t rc) wx := fun wx => by rw [ht]; exact upto_74 WA r rc 8 (by omega) wx
    have HT8 := Lib.hid ht
    clear ht
    go_enter Try.func47, Try.ntmps47
    go_wp2_with fail
    go_quiet (fail)
    go_wp2_with fail
    go_region_held3 (fun w' => w'.cell? ⟨g, 1, none⟩ = some (.int .i64 ack) ∧ w'.cell? ⟨g, 2, none⟩ = some (.int .i64 came)) (first | go_keep | (with_reducible exact ⟨k0, k2⟩) | (with_reducible exact ⟨m0, m2⟩) | (with_reducible exact ⟨p0, p2⟩))
      (first
        | (go_at_call 78
           (with_reducible refine (HB.out came _ (by omega)).mono ?_)
           rintro e w1 ⟨A1, d1, rfl, hc1, hc1', ht1, hb1⟩
           have hB1 : Below B0 w w1 := (by first | exact bel_d hb1 HB0.out | exact bel_da hb1 HB0.out)
           have k0 : w1.cell? ⟨g, 1, none⟩ = some (.int .i64 ack) := (HBK.out.below hB1 (by have := HB0.out; omega)).cell 1
           have k2 : w1.cell? ⟨g, 2, none⟩ = some (.int .i64 came) := (HBK.out.below hB1 (by have := HB0.out; omega)).cell 2)
        | (go_at_call 78
           (with_reducible refine (HB.out ack _ (by omega)).mono ?_)
           rintro e w2 ⟨A2, d2, rfl, hc2, hc2', ht2, hb2⟩
           have hB2 : Below B0 w w2 := (by first | exact bel_n hB1 hb2 HB0.out | exact bel_na hB1 hb2 HB0.out)
           have hs2 : B0 ≤ w2.heap.size := (by have := hB2.size; have := HB0.out; omega)
           have m0 : w2.cell? ⟨g, 1, none⟩ = some (.int .i64 ack) := (HBK.out.below hB2 (by have := HB0.out; omega)).cell 1
           have m2 : w2.cell? ⟨g, 2, none⟩ = some (.int .i64 came) := (HBK.out.below hB2 (by have := HB0.out; omega)).cell 2)
        | (go_at_call 77
           (with_reducible refine (cat_O1 ht1 ht2 HBL.out.1 HBL.out.2 ⟨hc1, hc1'⟩ ⟨hc2, hc2'⟩ ht255 hs2 hb2).mono ?_)
           rintro e w3 ⟨A3, d3, rfl, ho3, hb3⟩
           have p0 : w3.cell? ⟨g, 1, none⟩ = some (.int .i64 ack) := (HBK.out.below (hB2.trans hb3) (by have := HB0.out; omega)).cell 1
           have p2 : w3.cell? ⟨g, 2, none⟩ = some (.int .i64 came) := (HBK.out.below (hB2.trans hb3) (by have := HB0.out; omega)).cell 2)
        | (go_at_call 77
           (with_reducible refine (cat_O2 ht1 ht2 HBL.out.1 HBL.out.2 ⟨hc1, hc1'⟩ ⟨hc2, hc2'⟩ ht255 hs2 hb2).mono ?_)
           rintro e w3 ⟨A3, d3, rfl, ho3, hb3⟩
           have p0 : w3.cell? ⟨g, 1, none⟩ = some (.int .i64 ack) := (HBK.out.below (hB2.trans hb3) (by have := HB0.out; omega)).cell 1
           have p2 : w3.cell? ⟨g, 2, none⟩ = some (.int .i64 came) := (HBK.out.below (hB2.trans hb3) (by have := HB0.out; omega)).cell 2)
        | (go_at_call 77
           (with_reducible refine (cat_O3 ht1 ht2 HBL.out.1 HBL.out.2 ⟨hc1, hc1'⟩ ⟨hc2, hc2'⟩ ht255 hs2 hb1 hb2).mono ?_)
           rintro e w3 ⟨A3, d3, rfl, ho3, hb3⟩
           have p0 : w3.cell? ⟨g, 1, none⟩ = some (.int .i64 ack) := (HBK.out.below (hB2.trans hb3) (by have := HB0.out; omega)).cell 1
           have p2 : w3.cell? ⟨g, 2, none⟩ = some (.int .i64 came) := (HBK.out.below (hB2.trans hb3) (by have := HB0.out; omega)).cell 2))
    all_goals
      have hB3 : Below B0 w w3 := hB2.trans hb3
      have ho3' : w3.ownsRow B0 5 1 (.slice A3 9 d3) 9 (bytesV (bodyK came ack (W.map Ms.dat) 0)) := by
        have h1 : bodyK came ack (W.map Ms.dat) 0 = bigB came 4 ++ bigB ack 4 ++ [t] := by
          simp only [bodyK, headB, List.take_zero, List.flatMap_nil, List.append_nil, List.length_map, HWL.out]
          rw [← HT.out]
        rw [h1]; exact ho3
      clear ho3 hb3 p0 p2 m0 m2 k0 k2 ht1 ht2 hb1 hb2 hc1 hc1' hc2 hc2' hB1 hB2 hs2 c0 c1 c2 hcut HBL HB
      go_wp2_with fail
      go_loopw [4, 6, 41] (fun b _ i wr => ∃ (k n : Nat) (A : Option Addr) (c : Nat), k ≤ t ∧ i = .int .i64 k ∧ b = .slice A n c ∧ n ≤ 8025 ∧ Hid (n = (bodyK came ack (W.map Ms.dat) k).length) ∧ wr.ownsRow B0 5 1 (.slice A n c) n (bytesV (bodyK came ack (W.map Ms.dat) k)) ∧ Below B0 w wr) (fun _ _ i _ => t - (intOf i).toNat)
      case atStart => exact ⟨0, 9, A3, d3, Nat.zero_le _, rfl, rfl, by omega, Lib.hid (by simp [bodyK, headB_length]), ho3', hB3⟩
      case round =>
        obtain ⟨k, n, A, c, hk, rfl, rfl, hn, HN, hown, hb⟩ := hrel
        clear ho3' hB3
        have hsz : B0 ≤ wr.heap.size := by have := hb.size; have := HB0.out; omega
        by_cases hlt : k < t
        · obtain ⟨m, hm⟩ : ∃ m, W[k]? = some m := ⟨_, List.getElem?_eq_getElem (by have := HWL.out; omega)⟩
          obtain ⟨xb, xo, rfl, _, cx⟩ := (HRD.out.below hb).at1 (Nat.lt_of_lt_of_le hlt htr) (msV_get hm)
          have hok := (HOK.out m (List.mem_of_getElem? hm)).below (hb.mono (by have := HB0.out; omega))
          have hm1 : m.n ≤ 1000 := by rw [hok.len]; exact HLE.out m.dat (List.mem_map_of_mem (List.mem_of_getElem? hm))
          have hsucc := bodyK_succ came ack (W := W.map Ms.dat) (k := k) (m := m.dat) (by rw [List.getElem?_map, hm]; rfl)
          rw [← hok.len] at hsucc
          have HLT : Hid (∀ x ∈ bodyK came ack (W.map Ms.dat) k, x < 256) := Lib.hid (bodyK_lt came ack _ (fun y hy => by obtain ⟨z, hz, rfl⟩ := List.mem_map.1 hy; exact (HOK.out z hz).lt) k)
          have hle := bodyK_le came ack (W.map Ms.dat) HLE.out (k + 1) (by omega)
          have hl2 : (bodyK came ack (W.map Ms.dat) (k + 1)).length = n + 2 + m.n := by rw [hsucc, List.length_append, List.length_append, bigB_length, ← HN.out, ← hok.len]
          rw [hl2] at hle
          have HSU := Lib.hid hsucc
          have HL2 := Lib.hid hl2
          have HMO := Lib.hid hok
          have HBG := Lib.hid (big_any m.n 2 wr (by omega) (by omega))
          have hcap := own_cap hown
          have HMB : Hid (MsOk wr ⟨A, n, c, bodyK came ack (W.map Ms.dat) k⟩) := Lib.hid ⟨Tr.of_own hown, HN.out, hcap.1, hcap.2, HLT.out⟩
          clear hm hok hsucc hl2 hcap
          have HM : Hid (m = ⟨m.A, m.n, m.c, m.dat⟩) := Lib.hid rfl
          generalize m.A = mA at *
          generalize m.n = mn at *
          generalize m.c = mc at *
          go_wp2_with fail
          refine HBG.out.mono ?_
          rintro e w1 ⟨A1, d1, rfl, hc1, hc1', ht1, hb1⟩
          have hbw := hb.trans (hb1.mono hsz)
          have hs1 : B0 ≤ w1.heap.size := by have := hbw.size; have := HB0.out; omega
          have hm2 := HMO.out.below hb1
          rw [HM.out] at hm2
          have hcat := concat3_any (B0 := B0) ⟨A, n, c, bodyK came ack (W.map Ms.dat) k⟩ ⟨A1, 2, d1, bigB mn 2⟩ ⟨mA, mn, mc, m.dat⟩ w1 (HMB.out.below hb1) ⟨ht1, (bigB_length _ _).symm, hc1, hc1', bigB_lt _ _⟩ hm2 (by show 0 < n + 2 + mn; omega) (by show n + 2 + mn ≤ 1000000; omega) hs1
          have HCAT := Lib.hid hcat
          clear hcat hm2 hc1 hc1' ht1 hb1 hown hb HMB HBG HMO HM
          go_wp2_with fail
          refine HCAT.out.mono ?_
          rintro e w5 ⟨A5, c5, rfl, hown5, hb5⟩
          have hb6 := hbw.trans hb5
          rw [show bodyK came ack (W.map Ms.dat) k ++ bigB mn 2 ++ m.dat = bodyK came ack (W.map Ms.dat) (k + 1) from HSU.out.symm] at hown5
          clear HCAT hb5 hbw hs1
          go_wp2_with fail
          go_roundw
          case rel => exact ⟨k + 1, n + 2 + mn, A5, c5, by omega, by go_num, rfl, hle, Lib.hid HL2.out.symm, hown5, hb6⟩
          case measure => simp [intOf]; omega
        · obtain rfl : k = t := by omega
          rw [bodyK_end came ack k (W.map Ms.dat) (by rw [List.length_map, HWL.out, ← HT.out])] at hown HN
          have hpk : pktB came ack (W.map Ms.dat) = bodyB came ack (W.map Ms.dat) ++ bigB (sumBy (bodyB came ack (W.map Ms.dat))).toNat 8 := rfl
          obtain ⟨L, hL⟩ : ∃ L, L = bodyB came ack (W.map Ms.dat) := ⟨_, rfl⟩
          rw [← hL] at hown HN hpk
          have hr := sumBy_rng L
          obtain ⟨S, hS'⟩ := Int.eq_ofNat_of_zero_le hr.1
          rw [hS'] at hr
          rw [hS', Int.toNat_natCast] at hpk
          have hS2 : S < 18446744073709551616 := by have := hr.2; omega
          have hcapn := (own_cap hown)
          have HPK := Lib.hid hpk
          have hsum := sumBytes_any A n c wr.heap.size L wr (Rd.of_own hown) HN.out hcapn.1 hcapn.2
          rw [hS'] at hsum
          have HSUM := Lib.hid hsum
          have HBG : Hid (∀ wx, Calls Try.prog 78 #[.int .u64 (S : Nat), .int .i64 8] wx (RetT wx 5 1 8 (bytesV (bigB S 8)))) := Lib.hid fun wx => big_any S 8 wx hS2 (by omega)
          clear hL hr hS' hsum hcapn hpk
          go_wp2_with fail
          refine HSUM.out.mono ?_
          rintro e w6 ⟨rfl, m6, rfl⟩
          have hown6 : (wr.drewN m6).ownsRow B0 5 1 (.slice A n c) n (bytesV L) := hown
          have hb6 : Below B0 w (wr.drewN m6) := ⟨hb.os, hb.tape, hb.output, hb.size, hb.block⟩
          clear hown hb HSUM hsz
          generalize wr.drewN m6 = w6 at *
          have hsz6 : B0 ≤ w6.heap.size := by have := hb6.size; have := HB0.out; omega
          go_wp2_with fail
          refine (HBG.out _).mono ?_
          rintro e w7 ⟨A7, d7, rfl, _, _, ht7, hb7⟩
          have hown7 := own_keep hown6 hb7
          have hb8 := hb6.trans (hb7.mono hsz6)
          have hsz8 : B0 ≤ w7.heap.size := by have := hb8.size; have := HB0.out; omega
          clear hown6 hb6 hb7 HBG
          go_wp2_with
            (at_builtin
             go_must (refine wpList_append_rd _ rfl (.tmp 54) (.tmp 57) _ rfl B0 5 i0 (.int .u8 0) 1 1 Try.underlying30 hi0 hz0 hz1 hz2 rfl (by decide) (.slice A n c) n _ rfl hown7 w7.heap.size A7 8 d7 (bytesV (bigB S 8)) rfl ht7.rd (bytesV_one _) ?c2 ?c3 ?c4 ?_)
             case c2 => unfold maxLen; omega
             case c3 => omega
             case c4 => exact hsz8
             intro A9 c9 w9 hown9 hg9 hat9
             have hb9 := hb8.grown hg9 hsz8 (fun q hq => (hown7.lt q hq).1))
          go_ret
          rw [← bytesV_append, ← HPK.out] at hown9
          have hl : n + 8 = (pktB came ack (W.map Ms.dat)).length := by rw [HPK.out, List.length_append, bigB_length, HN.out]
          rw [hl] at hown9
          exact ⟨A9, c9, by rw [← hl]; rfl, by rw [← HB0.out]; exact hown9, by rw [← HB0.out]; exact hb9⟩
end Go.Proofs.Ytlgcdcjfobfoiaa
