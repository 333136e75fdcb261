/-
  The contract of an end's In. Conditions: an end in memory, bytes that can be read.
-/
import Derived.Test.YtlgcdcjfobfoiaaLkd
namespace Go.Proofs.Ytlgcdcjfobfoiaa
open Go.RowKit
set_option maxRecDepth 100000

theorem val4_lt {l : List Nat} (h : ∀ b ∈ l, b < 256) : val4 l < 4294967296 := by
  have := getD_lt h 0
  have := getD_lt h 1
  have := getD_lt h 2
  have := getD_lt h 3
  unfold val4; omega
theorem openR_lt {l : List Nat} (h : ∀ b ∈ l, b < 256) : (openR l).1.1 < 4294967296 ∧ (openR l).1.2.1 < 4294967296 := by
  have hb : ∀ b ∈ bodyO l, b < 256 := fun b hb => h b (List.mem_of_mem_take hb)
  unfold openR
  split
  · simp
  · split
    · split
      · simp
      · split
        · simp
        · exact ⟨val4_lt hb, val4_lt fun b hx => hb b (List.mem_of_mem_drop hx)⟩
    · simp
theorem openR_code (l : List Nat) : (openR l).2 ≤ 14 := by
  unfold openR
  split
  · simp
  · split
    · split
      · simp
      · split <;> simp
    · simp

/-- What an end is after a packet: first, next, waiting, got; the error. -/
def inR (first next : Nat) (W G : List (List Nat)) (l : List Nat) : (Nat × Nat × List (List Nat) × List (List Nat)) × Nat :=
  if (openR l).2 ≠ 0 then ((first, next, W, G), (openR l).2)
  else if first + W.length < (openR l).1.1 then ((first, next, W, G), 9)
  else ((max first (openR l).1.1, (dvN (openR l).1.2.1 next (openR l).1.2.2 (openR l).1.2.2.length).1, W.drop ((openR l).1.1 - first), G ++ (dvN (openR l).1.2.1 next (openR l).1.2.2 (openR l).1.2.2.length).2), 0)
def InP (w : World) (base : Nat) (F : List Nat) (g : Nat) (r : (Nat × Nat × List (List Nat) × List (List Nat)) × Nat) (e : Ending) (w' : World) : Prop :=
  EndP w base F g r.1.1 r.1.2.1 r.1.2.2.1 r.1.2.2.2 (.int .i64 r.2) e w'
theorem inR_err {first next : Nat} {W G : List (List Nat)} {l : List Nat} (h : (openR l).2 ≠ 0) : inR first next W G l = ((first, next, W, G), (openR l).2) := by unfold inR; rw [if_pos h]
theorem inR_order {first next : Nat} {W G : List (List Nat)} {l : List Nat} (h : (openR l).2 = 0) (h2 : first + W.length < (openR l).1.1) : inR first next W G l = ((first, next, W, G), 9) := by
  unfold inR; rw [if_neg (by simp [h]), if_pos h2]
theorem inR_ok {first next : Nat} {W G : List (List Nat)} {l : List Nat} (h : (openR l).2 = 0) (h2 : ¬ first + W.length < (openR l).1.1) : inR first next W G l = ((max first (openR l).1.1, (dvN (openR l).1.2.1 next (openR l).1.2.2 (openR l).1.2.2.length).1, W.drop ((openR l).1.1 - first), G ++ (dvN (openR l).1.2.1 next (openR l).1.2.2 (openR l).1.2.2.length).2), 0) := by
  unfold inR; rw [if_neg (by simp [h]), if_neg h2]
theorem EndP.same {w w1 : World} {base : Nat} {F : List Nat} {g first next : Nat} {W G : List (List Nat)} {v : Value} (h : EndS w1 base F g first next W G) (hb : Below w.heap.size w w1) : EndP w base F g first next W G v (.returned v) w1 :=
  ⟨F, rfl, h, SubF.refl _ _, Fq.of_below hb⟩
theorem dvN_hit {f next : Nat} {L : List (List Nat)} {k : Nat} (h : f + k = (dvN f next L k).1) : dvN f next L (k + 1) = ((dvN f next L k).1 + 1, (dvN f next L k).2 ++ [L.getD k []]) := by rw [dvN, if_pos h]
theorem dvN_miss {f next : Nat} {L : List (List Nat)} {k : Nat} (h : ¬ f + k = (dvN f next L k).1) : dvN f next L (k + 1) = dvN f next L k := by rw [dvN, if_neg h]
theorem dvN_len (f next : Nat) (L : List (List Nat)) (k : Nat) : (dvN f next L k).2.length ≤ k := by
  induction k with
  | zero => simp [dvN]
  | succ k ih =>
    by_cases h : f + k = (dvN f next L k).1
    · rw [dvN_hit h]; simp; exact ih
    · rw [dvN_miss h]; omega

theorem EndSt.dn {w : World} {base : Nat} {F : List Nat} {g first next : Nat} {W G : List Ms} {WA GA : Option Addr} {wc gc : Nat} (h : EndSt w base F g first next W G WA GA wc gc) (k : Nat) : EndSt (w.drewN k) base F g first next W G WA GA wc gc :=
  ⟨h.bk, h.wait, h.got, h.fp, h.nodup, h.low, fun m hm => (h.okW m hm).byt fun _ _ h => h, fun m hm => (h.okG m hm).byt fun _ _ h => h⟩
theorem Fq.of_dn {F : List Nat} {w w' : World} {k : Nat} (h : Fq F (w.drewN k) w') : Fq F w w' := ⟨h.os, h.tape, h.output, h.size, h.low, h.byt⟩

set_option maxHeartbeats 3200000 in
theorem in_any {base : Nat} {F : List Nat} {g first next : Nat} {W G : List (List Nat)} (A : Option Addr) (n c : Nat) (l : List Nat) (w : World) (h : EndS w base F g first next W G) (hr : Rd w w.heap.size 1 A n (bytesV l)) (hn : n = l.length) (hc : n ≤ c) (hc2 : c ≤ 9223372036854775807) (hl : ∀ b ∈ l, b < 256) (hbase : base ≤ w.heap.size) (h1 : first + W.length ≤ 1000000) (h2 : next ≤ 1000000) (h3 : G.length ≤ 1000000) :
    Calls Try.prog 48 #[.pointer (some ⟨g, 0, none⟩), .slice A n c] w (InP w base F g (inR first next W G l)) := by
  obtain ⟨i0, hi0, hz0, hz1, hz2⟩ := info_parts T.info30
  obtain ⟨B0, hB0⟩ : ∃ B0, B0 = w.heap.size := ⟨_, rfl⟩
  have hO := open_any A n c B0 l w hB0 (by rw [hB0]; exact hr) hn hc hc2 hl
  have hlt := openR_lt hl
  obtain ⟨a, ha⟩ : ∃ a, a = (openR l).1.1 := ⟨_, rfl⟩
  obtain ⟨f, hf⟩ : ∃ f, f = (openR l).1.2.1 := ⟨_, rfl⟩
  obtain ⟨L, hL⟩ : ∃ L, L = (openR l).1.2.2 := ⟨_, rfl⟩
  obtain ⟨cd, hcd⟩ : ∃ cd, cd = (openR l).2 := ⟨_, rfl⟩
  have hL8 : L.length ≤ 8 := by rw [hL]; exact openR_len l
  have hcd14 : cd ≤ 14 := by rw [hcd]; exact openR_code l
  rw [← ha, ← hf] at hlt
  obtain ⟨halt, hflt⟩ := hlt
  have HA := Lib.hid ha
  have HF := Lib.hid hf
  have HL := Lib.hid hL
  have HCD := Lib.hid hcd
  have HO := Lib.hid hO
  have HB0 := Lib.hid hB0
  have HE := Lib.hid h
  have hgl : g < w.heap.size := (h.lt g (by obtain ⟨_, _, _, _, _, _, h, _⟩ := h; rw [h.fp]; simp)).2
  have HGL := Lib.hid hgl
  clear hr hn hl ha hf hL hcd hO hB0 h hgl
  go_enter Try.func48, Try.ntmps48
  go_wp2_with fail
  refine HO.out.mono ?_
  rintro e w1 ⟨Ls, LA, lc, rfl, hLs, hownL, hokL, hb1⟩
  have hE1 := HE.out.below hb1
  have hLen : Ls.length = L.length := by rw [HL.out, ← hLs, List.length_map]
  rw [← HA.out, ← HF.out, ← HCD.out]
  rw [← HL.out] at hLs
  obtain ⟨t, ht⟩ : ∃ t, t = Ls.length := ⟨_, rfl⟩
  rw [← ht] at hownL
  rw [← ht]
  have ht8 : t ≤ 8 := by omega
  have HLS := Lib.hid hLs
  have HOWL := Lib.hid hownL
  have HOKL := Lib.hid hokL
  have HB1 := Lib.hid hb1
  have HT := Lib.hid ht
  have HLEN := Lib.hid hLen
  have HE1 := Lib.hid hE1
  clear hLs hownL hokL hb1 hE1 hLen ht HO
  by_cases hc0 : cd = 0
  · subst hc0
    obtain ⟨Ws, Gs, WA, GA, wc, gc, hst, hW, hG⟩ := HE1.out
    have k0 : w1.cell? ⟨g, 0, none⟩ = some (.int .i64 first) := hst.bk.cell 0
    have k1 : w1.cell? ⟨g, 1, none⟩ = some (.slice WA Ws.length wc) := hst.bk.cell 1
    have f0 := hst.bk.frozen 0
    have f1 := hst.bk.frozen 1
    obtain ⟨q, hq⟩ : ∃ q, q = Ws.length := ⟨_, rfl⟩
    rw [← hq] at k1
    have hWl : W.length = q := by rw [← hW, List.length_map, hq]
    rw [hWl] at h1
    have HST := Lib.hid hst
    have HW := Lib.hid hW
    have HG := Lib.hid hG
    have HQ := Lib.hid hq
    have HWL := Lib.hid hWl
    clear hst hW hG hq hWl
    have wf : IntKind.i64.wrap ((first : Int) + (q : Int)) = (first : Int) + q := by rw [IntKind.wrap_i64]; omega
    by_cases hord : first + q < a
    · have hoi : (first : Int) + (q : Int) < a := by omega
      go_wp2_with fail
      go_quiet (fail)
      go_wp2_with fail
      go_ret
      unfold InP
      rw [inR_order (by rw [← HCD.out]) (by rw [← HA.out, HWL.out]; exact hord)]
      exact EndP.same (HE1.out.below (Below.dn (Below.refl _ _) _)) (Below.dn HB1.out _)
    · have hoi : decide ((first : Int) + (q : Int) < a) = false := by simp; omega
      obtain ⟨st, hst⟩ : ∃ st, st = max first a := ⟨_, rfl⟩
      obtain ⟨W', hW'⟩ : ∃ W', W' = W.drop (a - first) := ⟨_, rfl⟩
      have HS' := Lib.hid hst
      have HW' := Lib.hid hW'
      clear hst hW'
      have hcase : first < a ∨ a ≤ first := by omega
      rcases hcase with ha2 | ha2
      · have hai : (first : Int) < a := by omega
        have HK : Hid (∀ k, EndS (((w1.drewN k).setCell ⟨g, 1, none⟩ (.slice (cutA WA wc (a - first)) (q - (a - first)) (wc - (a - first)))).setCell ⟨g, 0, none⟩ (.int .i64 a)) base F g st next W' G ∧ Fq F w1 (((w1.drewN k).setCell ⟨g, 1, none⟩ (.slice (cutA WA wc (a - first)) (q - (a - first)) (wc - (a - first)))).setCell ⟨g, 0, none⟩ (.int .i64 a))) := Lib.hid fun k => by
          have hk := ((HST.out.dn k).ack (a - first) (q - (a - first)) (by rw [← HQ.out]; omega) (by rw [← HQ.out]))
          rw [show first + (a - first) = a by omega] at hk
          refine ⟨?_, hk.2.of_dn⟩
          rw [show st = a by have := HS'.out; omega]
          exact ⟨_, Gs, _, GA, _, gc, hk.1, by rw [List.map_drop, HW.out, HW'.out], HG.out⟩
        have hcc : ∀ wx, (Instr.sliceAt 74 (.slice WA q wc) (some (.int .i64 ((a : Int) - (first : Int)))) none none).run Try.prog wx = .ok (.slice (cutA WA wc (a - first)) (q - (a - first)) (wc - (a - first))) wx := fun wx => by
          have h := cut_74 WA q wc (a - first) (by omega) wx
          rw [show ((a - first : Nat) : Int) = (a : Int) - (first : Int) by omega] at h
          exact h
        generalize cutA WA wc (a - first) = WA2 at *
        generalize q - (a - first) = q2 at *
        generalize wc - (a - first) = wc2 at *
        go_wp2_with fail
        go_quiet (fail)
        go_wp2_with fail
        go_region
        go_wp2_with fail
        have hE3 := (HK.out (nq + 1)).1
        have hQ3 := (HK.out (nq + 1)).2
        generalize ((w1.drewN (nq + 1)).setCell ⟨g, 1, none⟩ (.slice WA2 q2 wc2)).setCell ⟨g, 0, none⟩ (.int .i64 a) = wA at *
        clear HK hcc k0 k1 f0 f1
        go_loopw [9, 10, 59] (fun _ _ i wr => ∃ k nx : Nat, k ≤ t ∧ i = .int .i64 k ∧ nx ≤ 1000008 ∧ Hid (nx = (dvN f next L k).1) ∧ Hid (∃ Fi, EndS wr base Fi g st nx W' (G ++ (dvN f next L k).2) ∧ SubF F Fi w1.heap.size) ∧ Hid (Fq F w1 wr)) (fun _ _ i _ => t - (intOf i).toNat)
        case atStart => exact ⟨0, next, Nat.zero_le _, rfl, by omega, Lib.hid rfl, Lib.hid ⟨F, by simpa [dvN] using hE3, SubF.refl _ _⟩, Lib.hid hQ3⟩
        case round =>
          obtain ⟨k, nx, hk, rfl, hnx, HNX, HEE, HQQ⟩ := hrel
          by_cases hlt : k < t
          · have hkt : (k : Int) < t := by omega
            obtain ⟨m, hm⟩ : ∃ m, Ls[k]? = some m := ⟨_, List.getElem?_eq_getElem (by have := HT.out; omega)⟩
            have hrd : Rd wr wr.heap.size 1 LA t (msV Ls) := by
              refine Rd.of_own (base := w.heap.size) (e := 30) (c := lc) (own_keepB HOWL.out fun i hi => ?_)
              have hl := HOWL.out.lt i hi
              exact HQQ.out.low i hl.2 (fun hF => by have := (HE.out.lt i hF).2; omega)
            obtain ⟨lb, lo, hLA, _, cx⟩ := hrd.at1 hlt (msV_get hm)
            subst hLA
            have hokm := (HOKL.out m (List.mem_of_getElem? hm)).byt HQQ.out.byt
            have hmd : L.getD k [] = m.dat := by
              rw [← HLS.out, List.getD_eq_getElem?_getD, List.getElem?_map, hm]; rfl
            obtain ⟨Fi, hEi, hsubi⟩ := HEE.out
            obtain ⟨Ws', Gs', WA', GA', wc', gc', hst, hW', hG'⟩ := hEi
            have k2 : wr.cell? ⟨g, 2, none⟩ = some (.int .i64 nx) := hst.bk.cell 2
            have k3 : wr.cell? ⟨g, 3, none⟩ = some (.slice GA' Gs'.length gc') := hst.bk.cell 3
            have f2 := hst.bk.frozen 2
            have f3 := hst.bk.frozen 3
            have wfk : IntKind.i64.wrap ((f : Int) + (k : Int)) = (f : Int) + k := by rw [IntKind.wrap_i64]; omega
            by_cases heq : f + k = nx
            · have hei : ((f : Int) + (k : Int) == (nx : Int)) = true := by simp; omega
              obtain ⟨p, hp⟩ : ∃ p, p = Gs'.length := ⟨_, rfl⟩
              rw [← hp] at k3
              have hp8 : p ≤ 1000008 := by
                have h1 := dvN_len f next L k
                have h2 : (G ++ (dvN f next L k).2).length = Gs'.length := by rw [← hG', List.length_map]
                rw [List.length_append] at h2
                omega
              have hgn : base ≤ wr.heap.size := Nat.le_trans (by have := HB1.out.size; omega) HQQ.out.size
              have HSTT := Lib.hid hst
              have HOKM := Lib.hid hokm
              have HMV : Hid (m.v = .slice m.A m.n m.c) := Lib.hid rfl
              have HMD := Lib.hid hmd
              have HG2 := Lib.hid hG'
              have HW2 := Lib.hid hW'
              have HP := Lib.hid hp
              have HSUB := Lib.hid hsubi
              have hgl := hst.bk.lt
              have HOWG : Hid (wr.ownsRow base 30 1 (.slice GA' p gc') p (msV Gs')) := Lib.hid (by rw [hp]; exact hst.got)
              clear hst hokm hmd hG' hW' hp hsubi hrd hm HEE
              obtain ⟨mv, hmv⟩ : ∃ mv, mv = m.v := ⟨_, rfl⟩
              generalize m.A = mA at *
              generalize m.n = mn at *
              generalize m.c = mc at *
              go_wp2_with
                (at_builtin
                 go_must (refine wpList_append_one _ rfl (.tmp 76) (.tmp 78) _ rfl base 30 i0 (.slice none 0 0) 1 24 Try.underlying74 hi0 hz0 hz1 hz2 rfl (by decide) (.slice GA' p gc') p _ rfl (HOWG.out.alloc _) wr.heap.size 1 30 #[.slice mA mn mc] rfl (Bk.new _ _ _) rfl ?c1 (p + 1) rfl ?c2 ?c3 ?c4 ?_)
                 case c1 => simp [Value.oneCell']
                 case c2 => unfold maxLen; omega
                 case c3 => omega
                 case c4 => simp; omega
                 intro g5 d5 w5 hown5 hg5 hat5
                 have hk5 : Bk w5 g 123 #[.int .i64 st, .slice WA' Ws'.length wc', .int .i64 nx, .slice GA' Gs'.length gc'] := (HSTT.out.bk.alloc _).grown hg5 (fun e => HSTT.out.ne_got (by rw [own_blk_to] at e; exact e.symm))
                 have j2 : w5.cell? ⟨g, 2, none⟩ = some (.int .i64 nx) := hk5.cell 2
                 have j3 : w5.cell? ⟨g, 3, none⟩ = some (.slice GA' p gc') := by have h := hk5.cell 3; rw [← HP.out] at h; exact h
                 have i2 := hk5.frozen 2
                 have i3 := hk5.frozen 3
                 have HOWN5 := Lib.hid hown5
                 have HG5 := Lib.hid hg5
                 have HAT5 := Lib.hid hat5
                 clear hown5 hg5 hat5 hk5)
              go_roundw
              case rel =>
                obtain ⟨Fj, hst5, hsub5, hq5⟩ := HSTT.out.push HOKM.out HP.out (by rw [HMV.out]; exact HOWN5.out) (by rw [HMV.out]; exact HG5.out) (by rw [HMV.out]; exact HAT5.out)
                rw [show ((nx + 1 : Nat) : Int) = (nx : Int) + 1 by omega] at hst5 hq5
                have hhit := dvN_hit (f := f) (next := next) (L := L) (k := k) (by rw [← HNX.out]; exact heq)
                have hle := dvN_le f next L k
                rw [← HNX.out] at hle
                exact ⟨k + 1, nx + 1, by omega, by go_num, by omega, Lib.hid (by rw [hhit, ← HNX.out]), Lib.hid ⟨Fj, ⟨_, _, _, _, _, _, hst5, HW2.out, by rw [hhit, List.map_append, HG2.out, HMD.out]; simp⟩, HSUB.out.trans hsub5 HQQ.out.size⟩, Lib.hid (HQQ.out.trans hq5 HSUB.out)⟩
              case measure => simp [intOf]; omega
            · have hei : ((f : Int) + (k : Int) == (nx : Int)) = false := by simp; omega
              have hmiss := dvN_miss (f := f) (next := next) (L := L) (k := k) (by rw [← HNX.out]; exact heq)
              have HMISS := Lib.hid hmiss
              generalize m.A = mA at *
              generalize m.n = mn at *
              generalize m.c = mc at *
              clear hst hokm hmd hG' hW' hsubi hrd hm hmiss
              go_wp2_with fail
              go_roundw
              case rel => exact ⟨k + 1, nx, by omega, by go_num, hnx, Lib.hid (by rw [HMISS.out]; exact HNX.out), Lib.hid (by rw [HMISS.out]; exact HEE.out), HQQ⟩
              case measure => simp [intOf]; omega
          · obtain rfl : k = t := by omega
            go_wp2_with fail
            go_ret
            have hLk : L.length = k := by rw [HT.out, HLEN.out]
            obtain ⟨Fi, hEi, hsubi⟩ := HEE.out
            unfold InP
            rw [inR_ok (by rw [← HCD.out]) (by rw [← HA.out, HWL.out]; exact hord), ← HA.out, ← HF.out, ← HL.out, hLk, ← HS'.out, ← HW'.out, ← HNX.out]
            exact ⟨Fi, rfl, hEi, hsubi.weak HB1.out.size, (Fq.of_below HB1.out).trans HQQ.out (SubF.refl _ _)⟩
      · have hai : decide ((first : Int) < a) = false := by simp; omega
        have HK : Hid (∀ k, EndS (w1.drewN k) base F g st next W' G ∧ Fq F w1 (w1.drewN k)) := Lib.hid fun k => by
          refine ⟨?_, ⟨rfl, rfl, rfl, Nat.le_refl _, fun _ _ _ => rfl, fun _ _ h => h⟩⟩
          rw [show st = first by have := HS'.out; omega]
          exact ⟨Ws, Gs, WA, GA, wc, gc, HST.out.dn k, by rw [HW.out, HW'.out, show a - first = 0 by omega]; rfl, HG.out⟩
        go_wp2_with fail
        go_quiet (fail)
        go_wp2_with fail
        have hE3 := (HK.out nq).1
        have hQ3 := (HK.out nq).2
        generalize w1.drewN nq = wA at *
        clear HK k0 k1 f0 f1
        go_loopw [9, 10, 59] (fun _ _ i wr => ∃ k nx : Nat, k ≤ t ∧ i = .int .i64 k ∧ nx ≤ 1000008 ∧ Hid (nx = (dvN f next L k).1) ∧ Hid (∃ Fi, EndS wr base Fi g st nx W' (G ++ (dvN f next L k).2) ∧ SubF F Fi w1.heap.size) ∧ Hid (Fq F w1 wr)) (fun _ _ i _ => t - (intOf i).toNat)
        case atStart => exact ⟨0, next, Nat.zero_le _, rfl, by omega, Lib.hid rfl, Lib.hid ⟨F, by simpa [dvN] using hE3, SubF.refl _ _⟩, Lib.hid hQ3⟩
        case round =>
          obtain ⟨k, nx, hk, rfl, hnx, HNX, HEE, HQQ⟩ := hrel
          by_cases hlt : k < t
          · have hkt : (k : Int) < t := by omega
            obtain ⟨m, hm⟩ : ∃ m, Ls[k]? = some m := ⟨_, List.getElem?_eq_getElem (by have := HT.out; omega)⟩
            have hrd : Rd wr wr.heap.size 1 LA t (msV Ls) := by
              refine Rd.of_own (base := w.heap.size) (e := 30) (c := lc) (own_keepB HOWL.out fun i hi => ?_)
              have hl := HOWL.out.lt i hi
              exact HQQ.out.low i hl.2 (fun hF => by have := (HE.out.lt i hF).2; omega)
            obtain ⟨lb, lo, hLA, _, cx⟩ := hrd.at1 hlt (msV_get hm)
            subst hLA
            have hokm := (HOKL.out m (List.mem_of_getElem? hm)).byt HQQ.out.byt
            have hmd : L.getD k [] = m.dat := by
              rw [← HLS.out, List.getD_eq_getElem?_getD, List.getElem?_map, hm]; rfl
            obtain ⟨Fi, hEi, hsubi⟩ := HEE.out
            obtain ⟨Ws', Gs', WA', GA', wc', gc', hst, hW', hG'⟩ := hEi
            have k2 : wr.cell? ⟨g, 2, none⟩ = some (.int .i64 nx) := hst.bk.cell 2
            have k3 : wr.cell? ⟨g, 3, none⟩ = some (.slice GA' Gs'.length gc') := hst.bk.cell 3
            have f2 := hst.bk.frozen 2
            have f3 := hst.bk.frozen 3
            have wfk : IntKind.i64.wrap ((f : Int) + (k : Int)) = (f : Int) + k := by rw [IntKind.wrap_i64]; omega
            by_cases heq : f + k = nx
            · have hei : ((f : Int) + (k : Int) == (nx : Int)) = true := by simp; omega
              obtain ⟨p, hp⟩ : ∃ p, p = Gs'.length := ⟨_, rfl⟩
              rw [← hp] at k3
              have hp8 : p ≤ 1000008 := by
                have h1 := dvN_len f next L k
                have h2 : (G ++ (dvN f next L k).2).length = Gs'.length := by rw [← hG', List.length_map]
                rw [List.length_append] at h2
                omega
              have hgn : base ≤ wr.heap.size := Nat.le_trans (by have := HB1.out.size; omega) HQQ.out.size
              have HSTT := Lib.hid hst
              have HOKM := Lib.hid hokm
              have HMV : Hid (m.v = .slice m.A m.n m.c) := Lib.hid rfl
              have HMD := Lib.hid hmd
              have HG2 := Lib.hid hG'
              have HW2 := Lib.hid hW'
              have HP := Lib.hid hp
              have HSUB := Lib.hid hsubi
              have hgl := hst.bk.lt
              have HOWG : Hid (wr.ownsRow base 30 1 (.slice GA' p gc') p (msV Gs')) := Lib.hid (by rw [hp]; exact hst.got)
              clear hst hokm hmd hG' hW' hp hsubi hrd hm HEE
              obtain ⟨mv, hmv⟩ : ∃ mv, mv = m.v := ⟨_, rfl⟩
              generalize m.A = mA at *
              generalize m.n = mn at *
              generalize m.c = mc at *
              go_wp2_with
                (at_builtin
                 go_must (refine wpList_append_one _ rfl (.tmp 76) (.tmp 78) _ rfl base 30 i0 (.slice none 0 0) 1 24 Try.underlying74 hi0 hz0 hz1 hz2 rfl (by decide) (.slice GA' p gc') p _ rfl (HOWG.out.alloc _) wr.heap.size 1 30 #[.slice mA mn mc] rfl (Bk.new _ _ _) rfl ?c1 (p + 1) rfl ?c2 ?c3 ?c4 ?_)
                 case c1 => simp [Value.oneCell']
                 case c2 => unfold maxLen; omega
                 case c3 => omega
                 case c4 => simp; omega
                 intro g5 d5 w5 hown5 hg5 hat5
                 have hk5 : Bk w5 g 123 #[.int .i64 st, .slice WA' Ws'.length wc', .int .i64 nx, .slice GA' Gs'.length gc'] := (HSTT.out.bk.alloc _).grown hg5 (fun e => HSTT.out.ne_got (by rw [own_blk_to] at e; exact e.symm))
                 have j2 : w5.cell? ⟨g, 2, none⟩ = some (.int .i64 nx) := hk5.cell 2
                 have j3 : w5.cell? ⟨g, 3, none⟩ = some (.slice GA' p gc') := by have h := hk5.cell 3; rw [← HP.out] at h; exact h
                 have i2 := hk5.frozen 2
                 have i3 := hk5.frozen 3
                 have HOWN5 := Lib.hid hown5
                 have HG5 := Lib.hid hg5
                 have HAT5 := Lib.hid hat5
                 clear hown5 hg5 hat5 hk5)
              go_roundw
              case rel =>
                obtain ⟨Fj, hst5, hsub5, hq5⟩ := HSTT.out.push HOKM.out HP.out (by rw [HMV.out]; exact HOWN5.out) (by rw [HMV.out]; exact HG5.out) (by rw [HMV.out]; exact HAT5.out)
                rw [show ((nx + 1 : Nat) : Int) = (nx : Int) + 1 by omega] at hst5 hq5
                have hhit := dvN_hit (f := f) (next := next) (L := L) (k := k) (by rw [← HNX.out]; exact heq)
                have hle := dvN_le f next L k
                rw [← HNX.out] at hle
                exact ⟨.int .i64 k, .slice mA mn mc, .int .i64 ((k : Int) + 1), ⟨k + 1, by omega, by go_num, nx + 1, by omega, Lib.hid (by rw [hhit, ← HNX.out]), Lib.hid ⟨Fj, ⟨_, _, _, _, _, _, hst5, HW2.out, by rw [hhit, List.map_append, HG2.out, HMD.out]; simp⟩, HSUB.out.trans hsub5 HQQ.out.size⟩, Lib.hid (HQQ.out.trans hq5 HSUB.out)⟩, rfl, rfl, rfl⟩
              case measure => simp [intOf]; omega
            · have hei : ((f : Int) + (k : Int) == (nx : Int)) = false := by simp; omega
              have hmiss := dvN_miss (f := f) (next := next) (L := L) (k := k) (by rw [← HNX.out]; exact heq)
              have HMISS := Lib.hid hmiss
              generalize m.A = mA at *
              generalize m.n = mn at *
              generalize m.c = mc at *
              clear hst hokm hmd hG' hW' hsubi hrd hm hmiss
              go_wp2_with fail
              go_roundw
              case rel => exact ⟨k + 1, nx, by omega, by go_num, hnx, Lib.hid (by rw [HMISS.out]; exact HNX.out), Lib.hid (by rw [HMISS.out]; exact HEE.out), HQQ⟩
              case measure => simp [intOf]; omega
          · obtain rfl : k = t := by omega
            go_wp2_with fail
            go_ret
            have hLk : L.length = k := by rw [HT.out, HLEN.out]
            obtain ⟨Fi, hEi, hsubi⟩ := HEE.out
            unfold InP
            rw [inR_ok (by rw [← HCD.out]) (by rw [← HA.out, HWL.out]; exact hord), ← HA.out, ← HF.out, ← HL.out, hLk, ← HS'.out, ← HW'.out, ← HNX.out]
            exact ⟨Fi, rfl, hEi, hsubi.weak HB1.out.size, (Fq.of_below HB1.out).trans HQQ.out (SubF.refl _ _)⟩
  · have hci : ((cd : Int) == 0) = false := by simp; omega
    go_wp2_with fail
    go_ret
    unfold InP
    rw [inR_err (by rw [← HCD.out]; exact hc0), ← HCD.out]
    exact EndP.same HE1.out HB1.out
end Go.Proofs.Ytlgcdcjfobfoiaa
