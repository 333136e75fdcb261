/-
  The walk of the law InputUnpacks: its loop and its end. Conditions: numbers that fit their kinds, sizes within the reach.
-/
import Derived.Test.YtlgcdcjfobfoiaaLw3
namespace Go.Proofs.Ytlgcdcjfobfoiaa
open Go.RowKit
set_option maxRecDepth 100000


theorem Bk.c0 {w : World} {g : Nat} {t : TypeId} {a b c : Value} (h : Bk w g t #[a, b, c]) : w.cell? ⟨g, 0, none⟩ = some a := h.cell 0
theorem want_get {l xs WL : List Inp} {k : Nat} {y : Inp} (hW : WL = xs ++ l.drop k) (hx : xs.length = k) (hy : l[k]? = some y) : WL[k]? = some y := by
  rw [hW, List.getElem?_append_right (by omega), hx, Nat.sub_self, List.getElem?_drop]; simpa using hy
theorem want_same {l : List Inp} {k : Nat} {y : Inp} (h : l[k]? = some y) : l.set k y = l := by
  apply List.ext_getElem?
  intro i
  rw [List.getElem?_set]
  split
  · rename_i e; subst e
    split
    · exact h.symm
    · rename_i h2; rw [List.getElem?_eq_none (by omega)]
  · rfl
theorem set_set {l : List Inp} {k : Nat} {a b : Inp} : (l.set k a).set k b = l.set k b := by simp

set_option maxHeartbeats 6400000 in
theorem inputUnpacks_walk (A A' : Option Addr) (n c n' c' B : Nat) (l : List Inp) (bs : List Nat) (w : World) (hn : n = l.length) (hn' : n' = bs.length) (hm : n ≤ 9223372036854775807) (hs : n' ≤ 140737488355328) (hb : ∀ b ∈ bs, b < 256)
   (hr : Rd w B 3 A n (inCs l)) (hr' : Rd w B 1 A' n' (bytesV bs)) (hB : B ≤ w.heap.size) :
    Calls Try.prog 9 #[.slice A n c, .slice A' n' c'] w fun e w' => e = .returned (.bool true) ∧ Below w.heap.size w w' := by
  subst hn'
  have hba : Below w.heap.size w (w.alloc (.cells #[.slice A' bs.length c'] 30)) := (Below.refl _ _).alloc (Nat.le_refl _) _
  have hbb : Bk (w.alloc (.cells #[.slice A' bs.length c'] 30)) w.heap.size 30 #[.slice A' bs.length c'] := Bk.new _ _ _
  have HUn := Lib.hid (unpack_any A A' n c bs.length c' B l bs (w.alloc (.cells #[.slice A' bs.length c'] 30)) hn rfl hm hs hb (hr.below (hba.mono hB)) (hr'.below (hba.mono hB)) (by simp; omega))
  have HF := Lib.hid (fun (wx : World) (hx : Below w.heap.size w wx) => framefault_any (n : Int) A n c B l wx hn hm (hr.below (hx.mono hB)) (by have := hx.size; omega))
  have HN := Lib.hid hn
  have HR := Lib.hid hr
  have HR' := Lib.hid hr'
  have HB := Lib.hid hb
  clear hn hr hr' hb
  go_enter Try.func9, Try.ntmps9
  go_wp2_with fail
  obtain ⟨bb, hbbd⟩ : ∃ b, b = w.heap.size := ⟨_, rfl⟩
  rw [← hbbd] at hbb ⊢
  generalize w.alloc (.cells #[.slice A' bs.length c'] 30) = w1 at *
  have hw1 := hba.size
  refine HUn.out.mono ?_
  rintro e w2 ⟨A5, c5, rfl, ho5, hb2⟩
  have hbb2 := hba.trans (hb2.mono hw1)
  have hw2 := hbb2.size
  have hbk2 := hbb.below hb2 hbb.lt
  clear hbbd
  go_wp2_with fail
  refine (HF.out w2 hbb2).mono ?_
  rintro e w3 ⟨rfl, hb3⟩
  have hbb3 := hbb2.trans (hb3.mono hw2)
  have hw3 := hbb3.size
  have hbk3 := hbk2.below hb3 hbk2.lt
  have hr3 := own_rd ho5 hb3
  go_wp2_with fail
  refine (packed_fact w3).mono ?_
  rintro e W0 ⟨rfl, hb4⟩
  have hbb4 := hbb3.trans (hb4.mono hw3)
  have hw4 := hbb4.size
  have hbk4 := hbk3.below hb4 hbk3.lt
  have hr4 := (own_rd ho5 (hb3.trans (hb4.mono hb3.size))).more (show w2.heap.size ≤ W0.heap.size by have := hb3.size; have := hb4.size; omega)
  clear hbk2 hbk3 hr3 ho5 hb2 hb3 hb4 hbb2 hbb3 HUn hbb hba hw1 hw2 hw3
  by_cases h0 : errF n l = 0
  · obtain ⟨g1, g2, g3, g4⟩ := errF_eq_0 h0
    have HG := Lib.hid g4
    have HH0 := Lib.hid h0
    have t0 : (errF n l != 0) = false := by simp [h0]
    have hn8 : n ≤ 8 := by omega
    have hn1 : 1 ≤ n := by omega
    clear g1 g2 g3 g4 h0
    go_wp2_with fail
    have hab : Bk ((W0.alloc (.cells #[.int .i64 0] 3)).alloc (.cells #[.bool false] 4)) W0.heap.size 3 #[.int .i64 0] := (Bk.new _ _ _).alloc _
    have hsb : Bk ((W0.alloc (.cells #[.int .i64 0] 3)).alloc (.cells #[.bool false] 4)) (W0.heap.size + 1) 4 #[.bool false] := by
      have := Bk.new (W0.alloc (.cells #[.int .i64 0] 3)) 4 #[.bool false]
      simpa using this
    have hbA : Below W0.heap.size W0 ((W0.alloc (.cells #[.int .i64 0] 3)).alloc (.cells #[.bool false] 4)) := ((Below.refl _ _).alloc (Nat.le_refl _) _).alloc (by simp) _
    obtain ⟨ab, habd⟩ : ∃ b, b = W0.heap.size := ⟨_, rfl⟩
    obtain ⟨sb, hsbd⟩ : ∃ b, b = W0.heap.size + 1 := ⟨_, rfl⟩
    have E : Env W0 ab bb sb A' c' bs := ⟨hbk4, (HR'.out.below (hbb4.mono hB)).more (by omega), by omega, by omega, HB.out, hs⟩
    rw [← hsbd] at hsb ⊢
    generalize hW1 : (W0.alloc (.cells #[.int .i64 0] 3)).alloc (.cells #[.bool false] 4) = W1 at *
    rw [← habd] at hab
    have hc7 := cloneInp_any A n c W1.heap.size (inCs l) W1 ((HR.out.below ((hbb4.trans (hbA.mono hw4)).mono hB)).more (by have := hbA.size; omega)) (inCs_one _) (Nat.le_refl _) (by omega)
    refine hc7.mono ?_
    rintro e W2 ⟨A7, cw, rfl, ho7, hb7⟩
    obtain ⟨gw, _, hv7, _, _⟩ := ho7.form (by omega)
    have hA7 : A7 = some ⟨gw, 0, none⟩ := by injection hv7
    subst hA7
    have hgE : W0.heap.size ≤ W1.heap.size := hbA.size
    have hL0 : LkS W0 W2 ab sb gw cw n 0 false l := ⟨hab.below hb7 hab.lt, hsb.below hb7 hsb.lt, own_mono ho7 hgE, HN.out.symm, hbA.trans (hb7.mono hgE)⟩
    have hH0 : Hst l bs 0 0 false l := .inl ⟨rfl, [], rfl, by simp, rfl⟩
    rw [← habd]
    clear hc7 ho7 hb7 hv7 hbA hW1 habd hsbd hab hsb
    go_wp2_with fail
    go_loopw [46] (fun i wr => ∃ k : Nat, k ≤ n ∧ i = .int .i64 k ∧ LkR l bs W0 ab sb gw cw n k wr) (fun i _ => n - (intOf i).toNat)
    case atStart => exact ⟨0, Nat.zero_le _, rfl, 0, false, l, Nat.zero_le _, hL0, hH0⟩
    case round =>
      obtain ⟨k, hk, rfl, p, s, WL, hp, hL, hH⟩ := hrel
      have hbw := hbb4.trans (hL.below.mono hw4)
      have hsz := hbw.size
      have hgwlt : gw < wr.heap.size := (hL.own.lt gw rfl).2
      clear hL0 hH0
      by_cases hlt : k < n
      · obtain ⟨b, o, y, rfl, hbB, hy, y0, y1, y2⟩ := HR.out.inp HN.out hlt hbw hB
        have HY := Lib.hid hy
        have hyg := HG.out y (List.mem_of_getElem? hy)
        simp only [Inp.bad, not_or, Int.not_lt] at hyg
        obtain ⟨gy1, gy2, gy3, gy4, gy5, gy6⟩ := hyg
        have hL1 := hL.alloc (.cells #[.int .i64 y.k, .int .i64 y.x, .int .i64 y.y] 24)
        have hYb : Bk (wr.alloc (.cells #[.int .i64 y.k, .int .i64 y.x, .int .i64 y.y] 24)) wr.heap.size 24 #[.int .i64 y.k, .int .i64 y.x, .int .i64 y.y] := Bk.new _ _ _
        go_wp2_with fail
        generalize wr.alloc (.cells #[.int .i64 y.k, .int .i64 y.x, .int .i64 y.y] 24) = w1 at *
        clear hL y0 y1 y2
        rcases hH with ⟨rfl, xs, hpar, hWL, hxl⟩ | ⟨rfl, rfl, hnone⟩
        · have hWk := want_get hWL hxl hy
          have HPar := Lib.hid hpar
          have HWL := Lib.hid hWL
          have HXL := Lib.hid hxl
          clear hpar hy hWL hxl
          by_cases h1 : p + 1 ≤ 8 * bs.length
          · by_cases hv1 : valAt bs p 1 = 0
            · have HO : Hid (oneAt bs y p = some (y, p + 1)) := Lib.hid (by unfold oneAt; rw [if_neg (by omega), if_pos hv1])
              have hc0 := hL1.fit (m := 1) E (by decide) h1
              rw [hv1] at hc0
              refine (hc0).mono ?_
              rintro e w2 hc
              have hL2 := hL1.step hc E.h1 E.h2
              obtain ⟨rfl, _⟩ := hc
              clear hL1
              clear hc0 hv1
              go_wp2_with fail
              go_roundw
              case measure => simp [intOf]; omega
              case rel => exact ⟨k + 1, by omega, by go_num, ⟨_, false, _, h1, hL2, Hst.next HY.out HPar.out HXL.out HO.out (by rw [← HWL.out, want_same hWk])⟩⟩
            · have hv : valAt bs p 1 = 1 := by have := valAt_lt bs p 1; omega
              have hc0 := hL1.fit (m := 1) E (by decide) h1
              rw [hv] at hc0
              refine hc0.mono ?_
              rintro e w2 hc
              have hL2 := hL1.step hc E.h1 E.h2
              have hY2 : Bk w2 wr.heap.size 24 #[.int .i64 y.k, .int .i64 y.x, .int .i64 y.y] := hc.2.2.2.bk hYb (Bk.ne_ hYb hL1.a (by decide)) (Bk.ne_ hYb hL1.s (by decide))
              obtain ⟨rfl, _⟩ := hc
              clear hL1 hYb hc0 hv
              go_wp2_with fail
              have hLd := hL2.drew
              have hYd : Bk w2.drew wr.heap.size 24 #[.int .i64 y.k, .int .i64 y.x, .int .i64 y.y] := hY2
              have hyc : w2.cell? ⟨wr.heap.size, 0, none⟩ = some (.int .i64 y.k) := hY2.c0
              have hgy : wr.heap.size ≠ gw := by have := hgwlt; omega
              by_cases h9 : p + 9 ≤ 8 * bs.length
              · have h9' : p + 1 + 8 ≤ 8 * bs.length := by omega
                obtain ⟨K, hKd⟩ : ∃ K, K = valAt bs (p + 1) 8 := ⟨_, rfl⟩
                have hK := valAt_small bs (p + 1) 8 (by decide)
                rw [← hKd] at hK
                have hx := (i64_xor K y.k.toNat (by omega) (by omega)).1
                rw [Int.toNat_of_nonneg gy1] at hx
                have HKd := Lib.hid hKd
                clear hKd
                go_region_held3 (fun w' => w'.cell? ⟨wr.heap.size, 0, none⟩ = some (.int .i64 y.k)) (first | (with_reducible exact hYd.c0) | (with_reducible exact hY3.c0) | (with_reducible exact (hY3.far (p := ⟨gw, k * 3, none⟩) hgy _).c0) | go_keep)
                  (first | (go_at_call 41; (with_reducible refine (hLd.fit8 E h9').mono ?_); rintro e w3 hc3; have hL3 := hLd.step hc3 E.h1 E.h2; have hY3 : Bk w3 wr.heap.size 24 #[.int .i64 y.k, .int .i64 y.x, .int .i64 y.y] := hc3.2.2.2.bk hYd (Bk.ne_ hYd hLd.a (by decide)) (Bk.ne_ hYd hLd.s (by decide)); have sc : w3.cell? ⟨gw, k * 3, none⟩ = some (.int .i64 y.k) := (hL3.cell (m := 0) hWk (by decide)).1; have sf : w3.frozen? ⟨gw, k * 3, none⟩ = false := (hL3.cell (m := 0) hWk (by decide)).2; obtain ⟨rfl, _⟩ := hc3; rw [← HKd.out]))
                have hL4 : LkS W0 (w3.setCell ⟨gw, k * 3, none⟩ (.int .i64 ((K ^^^ y.k.toNat : Nat) : Int))) ab sb gw cw n (p + 1 + 8) false (WL.set k ⟨((K ^^^ y.k.toNat : Nat) : Int), y.x, y.y⟩) := hL3.put (m := 0) hWk (by decide) rfl
                have hWk4 : (WL.set k ⟨((K ^^^ y.k.toNat : Nat) : Int), y.x, y.y⟩)[k]? = some ⟨((K ^^^ y.k.toNat : Nat) : Int), y.x, y.y⟩ := set_get hWk
                go_wp2_with fail
                generalize w3.setCell ⟨gw, k * 3, none⟩ (.int .i64 ((K ^^^ y.k.toNat : Nat) : Int)) = w4 at *
                clear hL2 hLd hL3 hYd hY2 hY3 hyc sc sf
                by_cases h10 : p + 10 ≤ 8 * bs.length
                · by_cases hv2 : valAt bs (p + 9) 1 = 0
                  · have HO : Hid (oneAt bs y p = some (⟨((K ^^^ y.k.toNat : Nat) : Int), y.x, y.y⟩, p + 10)) := Lib.hid (by unfold oneAt; rw [if_neg (by omega), if_neg (by omega), if_neg (by omega), if_neg (by omega), if_pos hv2, HKd.out])
                    have hc0 := hL4.fit (m := 1) E (by decide) (by omega)
                    rw [hv2] at hc0
                    refine (hc0).mono ?_
                    rintro e w5 hc5
                    have hL5 := hL4.step hc5 E.h1 E.h2
                    obtain ⟨rfl, _⟩ := hc5
                    clear hL4
                    clear hc0 hv2
                    go_wp2_with fail
                    go_roundw
                    case measure => simp [intOf]; omega
                    case rel => exact ⟨k + 1, by omega, by go_num, ⟨_, false, _, h10, hL5, Hst.next HY.out HPar.out HXL.out HO.out (by rw [← HWL.out])⟩⟩
                  · have hv3 : valAt bs (p + 9) 1 = 1 := by have := valAt_lt bs (p + 9) 1; omega
                    have hc0 := hL4.fit (m := 1) E (by decide) (by omega)
                    rw [show p + 1 + 8 = p + 9 by omega, hv3] at hc0
                    rw [show p + 1 + 8 = p + 9 by omega] at hL4
                    refine (hc0).mono ?_
                    rintro e w5 hc5
                    have hL5 := hL4.step hc5 E.h1 E.h2
                    obtain ⟨rfl, _⟩ := hc5
                    clear hL4
                    clear hc0 hv3
                    rw [show p + 9 + 1 = p + 10 by omega] at hL5
                    go_wp2_with fail
                    by_cases h18 : p + 18 ≤ 8 * bs.length
                    · obtain ⟨X1, hX1d⟩ : ∃ x, x = valAt bs (p + 10) 8 := ⟨_, rfl⟩
                      have hX1b := valAt_small bs (p + 10) 8 (by decide)
                      rw [← hX1d] at hX1b
                      have HX1 := Lib.hid hX1d
                      have hc0 := hL5.fit (m := 8) E (by decide) (by omega)
                      rw [← hX1d, show p + 10 + 8 = p + 18 by omega] at hc0
                      clear hX1d
                      refine (hc0).mono ?_
                      rintro e w6 hc6
                      have hL6 := hL5.step hc6 E.h1 E.h2
                      obtain ⟨rfl, _⟩ := hc6
                      clear hL5
                      clear hc0
                      have sc : w6.cell? ⟨gw, k * 3 + 1, none⟩ = some (.int .i64 y.x) := (hL6.cell (m := 1) hWk4 (by decide)).1
                      have sf : w6.frozen? ⟨gw, k * 3 + 1, none⟩ = false := (hL6.cell (m := 1) hWk4 (by decide)).2
                      have hL7 : LkS W0 (w6.setCell ⟨gw, k * 3 + 1, none⟩ (.int .i64 ((X1 : Int) - 128))) ab sb gw cw n (p + 18) false (WL.set k ⟨((K ^^^ y.k.toNat : Nat) : Int), (X1 : Int) - 128, y.y⟩) := by
                        have := hL6.put (m := 1) (v := .int .i64 ((X1 : Int) - 128)) (x' := ⟨((K ^^^ y.k.toNat : Nat) : Int), (X1 : Int) - 128, y.y⟩) hWk4 (by decide) rfl
                        rw [set_set] at this
                        exact this
                      have hWk7 : (WL.set k ⟨((K ^^^ y.k.toNat : Nat) : Int), (X1 : Int) - 128, y.y⟩)[k]? = some ⟨((K ^^^ y.k.toNat : Nat) : Int), (X1 : Int) - 128, y.y⟩ := set_get hWk
                      go_wp2_with fail
                      generalize w6.setCell ⟨gw, k * 3 + 1, none⟩ (.int .i64 ((X1 : Int) - 128)) = w7 at *
                      clear sc sf hL6
                      by_cases h26 : p + 26 ≤ 8 * bs.length
                      · obtain ⟨X2, hX2d⟩ : ∃ x, x = valAt bs (p + 18) 8 := ⟨_, rfl⟩
                        have hX2b := valAt_small bs (p + 18) 8 (by decide)
                        rw [← hX2d] at hX2b
                        have HO : Hid (oneAt bs y p = some (⟨((K ^^^ y.k.toNat : Nat) : Int), (X1 : Int) - 128, (X2 : Int) - 128⟩, p + 26)) := Lib.hid (by unfold oneAt; rw [if_neg (by omega), if_neg (by omega), if_neg (by omega), if_neg (by omega), if_neg hv2, if_neg (by omega), if_neg (by omega), HKd.out, HX1.out, hX2d])
                        have hc0 := hL7.fit (m := 8) E (by decide) (by omega)
                        rw [← hX2d, show p + 18 + 8 = p + 26 by omega] at hc0
                        clear hX2d
                        refine (hc0).mono ?_
                        rintro e w8 hc8
                        have hL8 := hL7.step hc8 E.h1 E.h2
                        obtain ⟨rfl, _⟩ := hc8
                        clear hL7
                        clear hc0
                        have sc : w8.cell? ⟨gw, k * 3 + 2, none⟩ = some (.int .i64 y.y) := (hL8.cell (m := 2) hWk7 (by decide)).1
                        have sf : w8.frozen? ⟨gw, k * 3 + 2, none⟩ = false := (hL8.cell (m := 2) hWk7 (by decide)).2
                        have hL9 : LkS W0 (w8.setCell ⟨gw, k * 3 + 2, none⟩ (.int .i64 ((X2 : Int) - 128))) ab sb gw cw n (p + 26) false (WL.set k ⟨((K ^^^ y.k.toNat : Nat) : Int), (X1 : Int) - 128, (X2 : Int) - 128⟩) := by
                          have := hL8.put (m := 2) (v := .int .i64 ((X2 : Int) - 128)) (x' := ⟨((K ^^^ y.k.toNat : Nat) : Int), (X1 : Int) - 128, (X2 : Int) - 128⟩) hWk7 (by decide) rfl
                          rw [set_set] at this
                          exact this
                        have hWk9 : (WL.set k ⟨((K ^^^ y.k.toNat : Nat) : Int), (X1 : Int) - 128, (X2 : Int) - 128⟩)[k]? = some ⟨((K ^^^ y.k.toNat : Nat) : Int), (X1 : Int) - 128, (X2 : Int) - 128⟩ := set_get hWk
                        go_wp2_with fail
                        go_roundw
                        case measure => simp [intOf]; omega
                        case rel => exact ⟨k + 1, by omega, by go_num, ⟨_, false, _, h26, hL9, Hst.next HY.out HPar.out HXL.out HO.out (by rw [← HWL.out])⟩⟩
                      · have HO : Hid (oneAt bs y p = none) := Lib.hid (by unfold oneAt; rw [if_neg (by omega), if_neg (by omega), if_neg (by omega), if_neg (by omega), if_neg hv2, if_neg (by omega), if_pos h26])
                        refine (hL7.short (m := 8) E (by decide) h18 (by omega)).mono ?_
                        rintro e w8 hc8
                        have hL8 := hL7.step hc8 E.h1 E.h2
                        obtain ⟨rfl, _⟩ := hc8
                        clear hL7
                        have sc : w8.cell? ⟨gw, k * 3 + 2, none⟩ = some (.int .i64 y.y) := (hL8.cell (m := 2) hWk7 (by decide)).1
                        have sf : w8.frozen? ⟨gw, k * 3 + 2, none⟩ = false := (hL8.cell (m := 2) hWk7 (by decide)).2
                        have hL9 : LkS W0 (w8.setCell ⟨gw, k * 3 + 2, none⟩ (.int .i64 (-128))) ab sb gw cw n (8 * bs.length) true (WL.set k ⟨((K ^^^ y.k.toNat : Nat) : Int), (X1 : Int) - 128, -128⟩) := by
                          have := hL8.put (m := 2) (v := .int .i64 (-128)) (x' := ⟨((K ^^^ y.k.toNat : Nat) : Int), (X1 : Int) - 128, -128⟩) hWk7 (by decide) rfl
                          rw [set_set] at this
                          exact this
                        have hWk9 : (WL.set k ⟨((K ^^^ y.k.toNat : Nat) : Int), (X1 : Int) - 128, -128⟩)[k]? = some ⟨((K ^^^ y.k.toNat : Nat) : Int), (X1 : Int) - 128, -128⟩ := set_get hWk
                        go_wp2_with fail
                        go_roundw
                        case measure => simp [intOf]; omega
                        case rel => exact ⟨k + 1, by omega, by go_num, ⟨_, true, _, Nat.le_refl _, hL9, Hst.fail HY.out HPar.out HO.out⟩⟩
                    · have HO : Hid (oneAt bs y p = none) := Lib.hid (by unfold oneAt; rw [if_neg (by omega), if_neg (by omega), if_neg (by omega), if_neg (by omega), if_neg hv2, if_pos h18])
                      refine (hL5.short (m := 8) E (by decide) h10 (by omega)).mono ?_
                      rintro e w6 hc6
                      have hL6 := hL5.step hc6 E.h1 E.h2
                      obtain ⟨rfl, _⟩ := hc6
                      clear hL5
                      have sc : w6.cell? ⟨gw, k * 3 + 1, none⟩ = some (.int .i64 y.x) := (hL6.cell (m := 1) hWk4 (by decide)).1
                      have sf : w6.frozen? ⟨gw, k * 3 + 1, none⟩ = false := (hL6.cell (m := 1) hWk4 (by decide)).2
                      have hL7 : LkS W0 (w6.setCell ⟨gw, k * 3 + 1, none⟩ (.int .i64 (-128))) ab sb gw cw n (8 * bs.length) true (WL.set k ⟨((K ^^^ y.k.toNat : Nat) : Int), -128, y.y⟩) := by
                        have := hL6.put (m := 1) (v := .int .i64 (-128)) (x' := ⟨((K ^^^ y.k.toNat : Nat) : Int), -128, y.y⟩) hWk4 (by decide) rfl
                        rw [set_set] at this
                        exact this
                      have hWk7 : (WL.set k ⟨((K ^^^ y.k.toNat : Nat) : Int), -128, y.y⟩)[k]? = some ⟨((K ^^^ y.k.toNat : Nat) : Int), -128, y.y⟩ := set_get hWk
                      go_wp2_with fail
                      generalize w6.setCell ⟨gw, k * 3 + 1, none⟩ (.int .i64 (-128)) = w7 at *
                      clear sc sf hL6
                      refine (hL7.short (m := 8) E (by decide) (Nat.le_refl _) (by omega)).mono ?_
                      rintro e w8 hc8
                      have hL8 := hL7.step hc8 E.h1 E.h2
                      obtain ⟨rfl, _⟩ := hc8
                      clear hL7
                      have sc : w8.cell? ⟨gw, k * 3 + 2, none⟩ = some (.int .i64 y.y) := (hL8.cell (m := 2) hWk7 (by decide)).1
                      have sf : w8.frozen? ⟨gw, k * 3 + 2, none⟩ = false := (hL8.cell (m := 2) hWk7 (by decide)).2
                      have hL9 : LkS W0 (w8.setCell ⟨gw, k * 3 + 2, none⟩ (.int .i64 (-128))) ab sb gw cw n (8 * bs.length) true (WL.set k ⟨((K ^^^ y.k.toNat : Nat) : Int), -128, -128⟩) := by
                        have := hL8.put (m := 2) (v := .int .i64 (-128)) (x' := ⟨((K ^^^ y.k.toNat : Nat) : Int), -128, -128⟩) hWk7 (by decide) rfl
                        rw [set_set] at this
                        exact this
                      have hWk9 : (WL.set k ⟨((K ^^^ y.k.toNat : Nat) : Int), -128, -128⟩)[k]? = some ⟨((K ^^^ y.k.toNat : Nat) : Int), -128, -128⟩ := set_get hWk
                      go_wp2_with fail
                      go_roundw
                      case measure => simp [intOf]; omega
                      case rel => exact ⟨k + 1, by omega, by go_num, ⟨_, true, _, Nat.le_refl _, hL9, Hst.fail HY.out HPar.out HO.out⟩⟩
                · have HO : Hid (oneAt bs y p = none) := Lib.hid (by unfold oneAt; rw [if_neg (by omega), if_neg (by omega), if_neg (by omega), if_pos h10])
                  refine (hL4.short (m := 1) E (by decide) (by omega) (by omega)).mono ?_
                  rintro e w5 hc5
                  have hL5 := hL4.step hc5 E.h1 E.h2
                  obtain ⟨rfl, _⟩ := hc5
                  clear hL4
                  go_wp2_with fail
                  go_roundw
                  case measure => simp [intOf]; omega
                  case rel => exact ⟨k + 1, by omega, by go_num, ⟨_, true, _, Nat.le_refl _, hL5, Hst.fail HY.out HPar.out HO.out⟩⟩
              · have HO : Hid (oneAt bs y p = none) := Lib.hid (by unfold oneAt; rw [if_neg (by omega), if_neg hv1, if_pos h9])
                have h9' : ¬ p + 1 + 8 ≤ 8 * bs.length := by omega
                obtain ⟨Z, hx⟩ : ∃ Z, Go.bits .xor .i64 0 y.k = Z := ⟨_, rfl⟩
                go_region_held3 (fun w' => w'.cell? ⟨wr.heap.size, 0, none⟩ = some (.int .i64 y.k)) (first | (with_reducible exact hYd.c0) | (with_reducible exact hY3.c0) | (with_reducible exact (hY3.far (p := ⟨gw, k * 3, none⟩) hgy _).c0) | go_keep)
                  (first | (go_at_call 41; (with_reducible refine (hLd.short8 E h1 h9').mono ?_); rintro e w3 hc3; have hL3 := hLd.step hc3 E.h1 E.h2; have hY3 : Bk w3 wr.heap.size 24 #[.int .i64 y.k, .int .i64 y.x, .int .i64 y.y] := hc3.2.2.2.bk hYd (Bk.ne_ hYd hLd.a (by decide)) (Bk.ne_ hYd hLd.s (by decide)); have sc : w3.cell? ⟨gw, k * 3, none⟩ = some (.int .i64 y.k) := (hL3.cell (m := 0) hWk (by decide)).1; have sf : w3.frozen? ⟨gw, k * 3, none⟩ = false := (hL3.cell (m := 0) hWk (by decide)).2; obtain ⟨rfl, _⟩ := hc3))
                have hL4 : LkS W0 (w3.setCell ⟨gw, k * 3, none⟩ (.int .i64 Z)) ab sb gw cw n (8 * bs.length) true (WL.set k ⟨Z, y.x, y.y⟩) := hL3.put (m := 0) hWk (by decide) rfl
                go_wp2_with fail
                generalize w3.setCell ⟨gw, k * 3, none⟩ (.int .i64 Z) = w4 at *
                clear hL2 hLd hL3 hYd hY2 hY3 hyc sc sf
                refine (hL4.short (m := 1) E (by decide) (Nat.le_refl _) (by omega)).mono ?_
                rintro e w5 hc5
                have hL5 := hL4.step hc5 E.h1 E.h2
                obtain ⟨rfl, _⟩ := hc5
                clear hL4
                go_wp2_with fail
                go_roundw
                case measure => simp [intOf]; omega
                case rel => exact ⟨k + 1, by omega, by go_num, ⟨_, true, _, Nat.le_refl _, hL5, Hst.fail HY.out HPar.out HO.out⟩⟩
          · have HO : Hid (oneAt bs y p = none) := Lib.hid (by unfold oneAt; rw [if_pos h1])
            refine (hL1.short (m := 1) E (by decide) hp h1).mono ?_
            rintro e w2 hc
            have hL2 := hL1.step hc E.h1 E.h2
            obtain ⟨rfl, _⟩ := hc
            clear hL1
            go_wp2_with fail
            go_roundw
            case measure => simp [intOf]; omega
            case rel => exact ⟨k + 1, by omega, by go_num, ⟨_, true, _, Nat.le_refl _, hL2, Hst.fail HY.out HPar.out HO.out⟩⟩
        · have HNone := Lib.hid hnone
          clear hnone hy
          refine (hL1.short (m := 1) E (by decide) (Nat.le_refl _) (by omega)).mono ?_
          rintro e w2 hc
          have hL2 := hL1.step hc E.h1 E.h2
          obtain ⟨rfl, _⟩ := hc
          clear hL1
          go_wp2_with fail
          go_roundw
          case measure => simp [intOf]; omega
          case rel => exact ⟨k + 1, by omega, by go_num, ⟨_, true, _, Nat.le_refl _, hL2, Hst.none_ HY.out HNone.out⟩⟩
      · obtain rfl : k = n := by omega
        have hlk := hL.s.cell 0
        simp at hlk
        have htl : l.take k = l := List.take_of_length_le (by rw [← HN.out]; omega)
        have hdl : l.drop k = [] := List.drop_eq_nil_of_le (by rw [← HN.out]; omega)
        rcases hH with ⟨rfl, xs, hpar, hWL, hxl⟩ | ⟨rfl, rfl, hnone⟩
        · rw [htl] at hpar
          rw [hdl, List.append_nil] at hWL
          subst hWL
          have hgood := parse_good HG.out hpar
          have hun : unp l bs = if packB (packBits l WL) = bs then (WL, 0) else ([], 3) := by
            unfold unp
            rw [if_neg (by rw [← HN.out, HH0.out]; simp), hpar]
          have hown := hL.own
          have hbbr := E.b.below hL.below E.b.lt
          have hbc : wr.cell? ⟨bb, 0, none⟩ = some (.slice A' bs.length c') := hbbr.cell 0
          have hPk := packed_good A (some ⟨gw, 0, none⟩) k c k cw wr.heap.size l WL wr.drew HN.out hxl.symm hn8 rfl ((HR.out.below (hbw.mono hB)).more (by omega)) (Rd.of_own (w := wr.drew) hown) (Nat.le_refl _) HG.out hgood.2
          have hEq : ∀ (A9 : Option Addr) (c9 : Nat) (wx : World), wx.ownsRow wr.heap.size 5 1 (.slice A9 (packB (packBits l WL)).length c9) (packB (packBits l WL)).length (bytesV (packB (packBits l WL))) → Below wr.heap.size wr wx →
              Calls Try.prog 21 #[.slice A9 (packB (packBits l WL)).length c9, .slice A' bs.length c'] wx fun e w' => e = .returned (.bool (decide (packB (packBits l WL) = bs))) ∧ wx = w' := fun A9 c9 wx ho hx =>
            bytesEqual_any A9 A' _ c9 bs.length c' wx.heap.size _ bs wx (packB_lt _).1 HB.out (Rd.of_own ho) ((E.r.below (hL.below.trans (hx.mono hL.below.size))).more (by have := hL.below.size; have := hx.size; omega))
          obtain ⟨dB, hdB⟩ : ∃ d : Bool, decide (packB (packBits l WL) = bs) = d := ⟨_, rfl⟩
          rw [hdB] at hEq
          have HdB := Lib.hid hdB
          have HPk := Lib.hid hPk
          have HEq := Lib.hid hEq
          have HUn := Lib.hid hun
          have HWl := Lib.hid hxl
          have hLb := hL.below
          clear hPk hEq hun hgood hpar htl hdl hxl hL hdB
          generalize packB (packBits l WL) = L at *
          go_wp2_with fail
          go_region_held3 (fun w' => w'.cell? ⟨bb, 0, none⟩ = some (.slice A' bs.length c')) (first | (with_reducible exact hbc) | (with_reducible exact hbc') | go_keep)
            (first | (go_at_call 22; (with_reducible refine HPk.out.mono ?_); rintro e w9 ⟨A9, c9, rfl, ho9, hb9⟩; have hb9' : Below wr.heap.size wr w9 := (Below.drew (Below.refl _ _)).trans hb9; have hbc' : w9.cell? ⟨bb, 0, none⟩ = some (.slice A' bs.length c') := (hb9'.cell (p := ⟨bb, 0, none⟩) hbbr.lt).trans hbc) | (go_at_call 21; (with_reducible refine (HEq.out _ _ _ ho9 hb9').mono ?_); rintro e w10 ⟨rfl, rfl⟩))
          have hfin := hbw.trans (hb9'.mono hsz)
          cases dB with
          | true =>
            have hd : L = bs := of_decide_eq_true HdB.out
            have hu : unp l bs = (WL, 0) := by rw [HUn.out, if_pos hd]
            rw [hu] at hr4 ⊢
            have h39 := equalInp_any A5 (some ⟨gw, 0, none⟩) WL.length c5 k cw w9.heap.size WL WL w9 rfl HWl.out.symm (by have := HWl.out; omega) ((hr4.below (hLb.trans (hb9'.mono hLb.size))).more (by have := hLb.size; have := hb9'.size; omega)) ((own_rd hown hb9').more hb9'.size)
            simp only [decide_true] at h39
            have H39 := Lib.hid h39
            clear hd hu h39 hr4
            go_wp2_with fail
            refine H39.out.mono ?_
            rintro e w11 ⟨rfl, mq, rfl⟩
            go_wp2_with fail
            go_ret
            exact ⟨rfl, ⟨hfin.os, hfin.tape, hfin.output, hfin.size, hfin.block⟩⟩
          | false =>
            have hd : ¬ L = bs := of_decide_eq_false HdB.out
            have hu : unp l bs = ([], 3) := by rw [HUn.out, if_neg hd]
            rw [hu]
            clear hd hu
            go_wp2_with fail
            go_ret
            exact ⟨rfl, hfin⟩
        · have hun : unp l bs = ([], 14) := by
            rw [htl] at hnone
            unfold unp
            rw [if_neg (by rw [← HN.out, HH0.out]; simp), hnone]
          rw [hun]
          clear hun htl hdl hnone
          go_wp2_with fail
          go_ret
          exact ⟨rfl, hbw⟩
  · have h1 : errF n l = 1 := (errF_01 n l).resolve_left h0
    have hun : unp l bs = ([], 1) := by unfold unp; rw [← HN.out, h1]; simp
    have t0 : ((1 : Int) != 0) = true := by decide
    have HH1 := Lib.hid h1
    clear hr4 t0
    rw [h1, hun]
    clear hun h0 h1
    go_wp2_with fail
    refine (packed_fact W0).mono ?_
    rintro e w5 ⟨rfl, hb5⟩
    go_wp2_with fail
    go_ret
    exact ⟨rfl, hbb4.trans (hb5.mono hw4)⟩
end Go.Proofs.Ytlgcdcjfobfoiaa
