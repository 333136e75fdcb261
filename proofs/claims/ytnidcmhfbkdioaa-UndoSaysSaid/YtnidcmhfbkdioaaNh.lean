/-
  The contract of tourkeep4.Changed. Conditions: a valid world and a list of numbers that can be read.
-/
import Derived.Test.YtnidcmhfbkdioaaMz
namespace Go.Proofs.Ytnidcmhfbkdioaa
open Go.RowKit
set_option maxRecDepth 100000

theorem own_lo {w : World} {base base' size n : Nat} {e : TypeId} {v : Value} {xs : List Value} (h : w.ownsRow base e size v n xs) (hb : base' ≤ base) : w.ownsRow base' e size v n xs := by
  refine ⟨h.1, ?_⟩
  rcases h.2 with h1 | ⟨g, cap, cur, h1, h2, h3⟩
  · exact .inl h1
  · exact .inr ⟨g, cap, cur, h1, Nat.le_trans hb h2, h3⟩
theorem own_at {w : World} {base n c : Nat} {e : TypeId} {A : Option Addr} {xs : List Value} (h : w.ownsRow base e 1 (.slice A n c) n xs) (hn : 0 < n) : ∃ g, A = some ⟨g, 0, none⟩ ∧ base ≤ g ∧ g < w.heap.size := by
  obtain ⟨g, cap, hv, h1, h2⟩ := h.form hn
  injection hv with hA
  exact ⟨g, hA, h1, h2⟩
theorem at_map {α β : Type} {f : α → β} {l : List α} {i : Nat} {b : β} (h : (l.map f)[i]? = some b) : ∃ a, l[i]? = some a ∧ f a = b := by
  rw [List.getElem?_map] at h
  cases hl : l[i]? with
  | none => rw [hl] at h; cases h
  | some a => rw [hl] at h; exact ⟨a, rfl, by injection h⟩

set_option maxHeartbeats 16000000 in
theorem changed2_any (x : Wd) (A : Option Addr) (n c B : Nat) (zs : List Int) (w : World) (hx : WdY w 0 x) (hv : VW holdK x.p) (hck : checkF x.p.ks = 0) (h256 : x.gens.length < 256) (hr : Rd w B 1 A n (zs.map (Value.int .i64))) (hn : n = zs.length) (hnc : n ≤ c) (hc : c ≤ 9223372036854775807) (hz : ∀ z ∈ zs, (Lit.int .i64 z).wf = true) (hB : B ≤ w.heap.size) :
    Calls Try.prog 30 #[x.v, .slice A n c] w fun e w' => ∃ y : Wd, e = .returned y.v ∧ Hid (WdY w' 0 y ∧ VW holdK y.p ∧ Newer x.p y.p ∧ y.p.ks = x.p.ks ∧ y.p.gens.length ≤ x.p.gens.length + 1) ∧ Below w.heap.size w w' := by
  obtain ⟨kA, kn, kc, ks, GA, gn, gc, G, IA, im, ic, its⟩ := x
  obtain ⟨W0, hW0⟩ : ∃ W0, W0 = ((w.alloc (.cells #[.slice kA kn kc, .slice GA gn gc, .slice IA im ic] 52)).alloc (.cells #[.slice none 0 0, .slice none 0 0, .slice none 0 0] 52)).alloc (.cells #[.slice A n c] 189) := ⟨_, rfl⟩
  have hb0 : Below w.heap.size w W0 := by rw [hW0]; exact Below.al (Below.al (Below.al (Below.refl _ _) _) _) _
  have hbw : Bk W0 w.heap.size 52 #[.slice kA kn kc, .slice GA gn gc, .slice IA im ic] := by rw [hW0]; exact ((Bk.new _ _ _).alloc _).alloc _
  have hbR : Bk W0 (w.heap.size + 1) 52 #[.slice none 0 0, .slice none 0 0, .slice none 0 0] := by rw [hW0]; exact (Bk.two _ _ _ _).alloc _
  have hbs : Bk W0 (w.heap.size + 1 + 1) 189 #[.slice A n c] := by rw [hW0]; simpa using Bk.new ((w.alloc (.cells #[.slice kA kn kc, .slice GA gn gc, .slice IA im ic] 52)).alloc (.cells #[.slice none 0 0, .slice none 0 0, .slice none 0 0] 52)) 189 #[.slice A n c]
  obtain ⟨s, hs⟩ : ∃ s, s = w.heap.size + 1 + 1 := ⟨_, rfl⟩
  obtain ⟨r, hrr⟩ : ∃ r, r = w.heap.size + 1 := ⟨_, rfl⟩
  rw [← hs] at hbs
  rw [← hrr] at hbR
  have hst : StrSt W0 B s := ⟨A, n, c, zs, hbs, hn, hnc, hc, hr.below (hb0.mono hB), hz⟩
  have hBs : B ≤ s := by omega
  have hsz0 : s < W0.heap.size := by rw [hW0, hs]; simp
  have hsr : r < s := by omega
  have hrw : w.heap.size < r := by omega
  have hgn : gn = G.length := hx.gs.len
  have him : im = its.length := hx.its.len
  have hkn : kn = ks.length := hx.ks.len
  have h256 : G.length < 256 := h256
  have himl : im ≤ gn := by have := hv.its_len; simp [Wd.p] at this; omega
  have hkn16 : kn ≤ 16 := by have := (check_len hck).1; simp [Wd.p] at this; omega
  have HKY : Hid (KsY w 0 kA kn kc ks) := Lib.hid hx.ks
  have HIO : Hid (IsOk w w.heap.size IA im ic its) := Lib.hid hx.its.ok_
  have HGO : Hid (GsOk w w.heap.size GA gn gc G) := Lib.hid hx.gs.ok_
  have HV : Hid (VW holdK (⟨ks.map Kd.p, G, its.map It.p⟩ : Wv Kp2)) := Lib.hid hv
  have HCK : Hid (checkF (ks.map Kd.p) = 0) := Lib.hid hck
  have HBW : Hid (∀ wx, Fq [s] W0 wx → Below w.heap.size w wx) := Lib.hid fun wx hq => hb0.trans (hq.below (fun k hk => by rw [show k = s by simpa using hk]; omega) hb0.size)
  have HWB : Hid (∀ wx, Fq [s] W0 wx → Bk wx w.heap.size 52 #[.slice kA kn kc, .slice GA gn gc, .slice IA im ic]) := Lib.hid fun wx hq => (hq.low _ hbw.lt (by simp; omega)).trans hbw
  have HRB : Hid (∀ wx, Fq [s] W0 wx → Bk wx r 52 #[.slice none 0 0, .slice none 0 0, .slice none 0 0]) := Lib.hid fun wx hq => (hq.low _ hbR.lt (by simp; omega)).trans hbR
  have HS0 := Lib.hid hst
  have HNX := Lib.hid next_any
  have hgcl : ∀ wx, Below W0.heap.size W0 wx → Calls Try.prog 103 #[.slice GA gn gc] wx fun e w' => ∃ A' c', e = .returned (.slice A' gn c') ∧ Hid (w'.ownsRow W0.heap.size 3 1 (.slice A' gn c') gn (G.map (Value.int .i64))) ∧ Below wx.heap.size wx w' ∧ Below W0.heap.size W0 w' := fun wx hb0' => by
    have hb := hb0.trans (hb0'.mono hb0.size)
    refine (cloneInts_any GA gn gc w.heap.size (G.map (Value.int .i64)) wx (HGO.out.rd.below hb) (by intro u hu; obtain ⟨z, _, rfl⟩ := List.mem_map.1 hu; rfl) hb.size (by omega)).mono ?_
    rintro e w' ⟨A', c', h1, h2, h3⟩
    exact ⟨A', c', h1, Lib.hid (own_lo h2 hb0'.size), h3, Below.tr hb0' h3⟩
  have HGC := Lib.hid hgcl
  have HB0 := Lib.hid hb0
  have HLE := Lib.hid (And.intro hgn (And.intro him hkn))
  have hgn256 : gn < 256 := by omega
  have HSR := Lib.hid (And.intro hrr (show s = r + 1 by omega))
  clear hx hv hck hr hn hnc hc hz hb0 hbw hbR hbs hst hgcl hs hrr hgn him hkn
  show Calls Try.prog 30 #[.agg #[.slice kA kn kc, .slice GA gn gc, .slice IA im ic], .slice A n c] w _
  go_enter Try.func30, Try.ntmps30
  go_wp2_with fail
  rw [← hW0, ← HSR.out.1, ← HSR.out.2]
  clear hW0
  go_cut [6] from 18 to 23 (fun pv wx => ∃ (gA' : Option Addr) (gc' ho : Nat), pv = .pointer (some ⟨ho, 0, none⟩) ∧ Hid (Bk wx ho 52 #[.slice kA kn kc, .slice gA' gn gc', .slice none 0 0]) ∧ Hid (wx.ownsRow W0.heap.size 3 1 (.slice gA' gn gc') gn (G.map (Value.int .i64))) ∧ W0.heap.size ≤ ho ∧ Hid (Below W0.heap.size W0 wx))
  case first =>
    rename_i J0 Kp0 A1 A0
    have HSS : Hid (∀ wx, Below W0.heap.size W0 wx → wx.cell? ⟨w.heap.size, 0, none⟩ = some (.slice kA kn kc) ∧ wx.cell? ⟨w.heap.size, 1, none⟩ = some (.slice GA gn gc)) := Lib.hid fun wx hb => ⟨(HWB.out wx (Fq.of_below hb)).cell 0, (HWB.out wx (Fq.of_below hb)).cell 1⟩
    go_region_held3 (fun wx => wx.cell? ⟨w.heap.size, 0, none⟩ = some (.slice kA kn kc) ∧ wx.cell? ⟨w.heap.size, 1, none⟩ = some (.slice GA gn gc))
      (((with_reducible refine HSS.out _ ?_); (repeat' first | with_reducible exact Below.refl _ _ | assumption | with_reducible refine Below.drew ?_ | with_reducible refine Below.al ?_ _ | with_reducible refine Below.setCell ?_ (by (try simp); (try omega)) _)))
      (first
        | (go_at_call 103
           (with_reducible refine (HGC.out _ ?hbel).mono ?_)
           case hbel => (repeat' first | exact Below.refl _ _ | assumption | refine Below.drew ?_ | refine Below.al ?_ _)
           rintro e w5 ⟨gA', gc', rfl, hgs5, hb5, hB5⟩
           have hz5 := hb5.size
           (try simp at hz5)
           (try (have k0 := fun o => bcell hb5 W0.heap.size (by first | (simp; done) | (simp; omega) | fail) o
                 have f0 := fun o => bfroz hb5 W0.heap.size (by first | (simp; done) | (simp; omega) | fail) o
                 have k0b := fun o ob => bcell (Below.al hb5 ob) W0.heap.size (by first | (simp; done) | (simp; omega) | fail) o
                 have f0b := fun o ob => bfroz (Below.al hb5 ob) W0.heap.size (by first | (simp; done) | (simp; omega) | fail) o))))
    all_goals
      refine A0 _ _ (Met.intro (A1 _ _ ?_))
      (repeat apply Exists.intro)
      refine And.intro ?_ rfl
      have hz6 := hB5.size
      (repeat apply Exists.intro)
      constructor
      · rfl
      constructor
      · apply Lib.hid
        first
          | with_reducible exact Bk.new _ _ _
          | with_reducible exact Bk.two _ _ _ _
          | with_reducible exact (Bk.new _ _ _).alloc _
          | (refine Bk.set3 (x := .slice none 0 0) (y := .slice none 0 0) (z := .slice none 0 0) ?_ _ _ _
             (repeat' first | with_reducible exact Bk.new _ _ _ | with_reducible exact Bk.two _ _ _ _ | with_reducible refine Bk.drew ?_ | with_reducible refine Bk.alloc ?_ _ | with_reducible refine Bk.below2 ?_ hb5))
      refine ⟨Lib.hid (Kx.own (B := 0) (F := [52]) ?hkx hgs5.out (by decide)), ?hho, Lib.hid ?hbl⟩
      case hkx => (repeat' first | with_reducible exact Kx.refl | with_reducible refine Kx.drew ?_ | with_reducible refine Kx.alloc ?_ _ | with_reducible refine Kx.set3 (t := 52) (cs := #[.slice none 0 0, .slice none 0 0, .slice none 0 0]) ?_ ?_ (Nat.zero_le _) (by simp) _ _ _ _ _ _ | with_reducible exact Bk.new _ _ _ | with_reducible exact Bk.two _ _ _ _ | with_reducible refine Bk.drew ?_ | with_reducible refine Bk.alloc ?_ _ | with_reducible refine Bk.below2 ?_ hb5)
      case hho => omega
      case hbl => (repeat' first | with_reducible exact Below.refl _ _ | with_reducible assumption | with_reducible refine Below.drew ?_ | with_reducible refine Below.al ?_ _ | with_reducible refine Below.setCell ?_ (by dsimp only; omega) _)
  case rest =>
    obtain ⟨gA', gc', ho, rfl, HBO, HGR, hho, HBL⟩ := hcut
    have HQ0 : Hid (Fq [s] W0 wc) := Lib.hid (Fq.of_below HBL.out)
    have HSc : Hid (StrSt wc B s) := Lib.hid (HS0.out.below HBL.out (HS0.out.lo hBs))
    have hd2 : wc.cell? ⟨w.heap.size, 2, none⟩ = some (.slice IA im ic) := (HWB.out wc HQ0.out).cell 2
    have HI0 : Hid (WI r ho W0.heap.size wc kA kn kc ks gA' gn gc' G none 0 0 [] ∧ ChI holdK (⟨ks.map Kd.p, G, its.map It.p⟩ : Wv Kp2) 0 G []) := Lib.hid ⟨⟨HRB.out wc HQ0.out, HBO.out, HKY.out.keep (F := []) (Kx.of_below (B := 0) (HBW.out wc HQ0.out)) (by simp) (by simp), HGR.out, World.ownsRow_nil _ _ _ _, rfl, (fun x hx => by cases hx), (fun x hx => by cases hx), by omega⟩, ChI.zero HV.out⟩
    obtain ⟨i3, hi3, hz30, hz31, hz32⟩ := info_parts T.info3
    obtain ⟨i1, hi1, hz10, hz11, hz12⟩ := info_parts T.infoCm
    obtain ⟨iI, hiI, hzI0, hzI1, hzI2⟩ := info_parts T.infoIt
    clear HGC HBO HGR HBL HS0
    go_wp2_with fail
    go_loopw [27] (fun iv wr => ∃ (i q ic1 : Nat) (IA1 : Option Addr) (G1 : List Int) (l1 : List It), i ≤ im ∧ q ≤ i ∧ iv = .int .i64 i ∧ Hid (WI r ho W0.heap.size wr kA kn kc ks gA' gn gc' G1 IA1 q ic1 l1 ∧ ChI holdK (⟨ks.map Kd.p, G, its.map It.p⟩ : Wv Kp2) i G1 (l1.map It.p)) ∧ Hid (StrSt wr B s) ∧ Hid (Fq [s] W0 wr)) (fun iv _ => im - (intOf iv).toNat)
    case atStart => exact ⟨0, 0, 0, none, G, [], Nat.zero_le _, Nat.le_refl _, rfl, HI0, HSc, HQ0⟩
    case round =>
      clear HI0 HSc HQ0 hd2
      obtain ⟨i, q, ic1, IA1, G1, l1, hi, hqi, rfl, HI, HS, HQ⟩ := hrel
      obtain ⟨wo, rfl⟩ : ∃ x, x = wr := ⟨_, rfl⟩
      by_cases hlt : i < im
      · have hiz : (i : Int) < im := by omega
        obtain ⟨x, hx⟩ : ∃ x, its[i]? = some x := ⟨_, List.getElem?_eq_getElem (by have h := HLE.out; omega)⟩
        have hcw := HIO.out.below (HBW.out wo HQ.out)
        have hxo := hcw.ok x (List.mem_of_getElem? hx)
        obtain ⟨b, o, rfl, hbb, q0, q1, q2⟩ := hcw.rd.it hlt hx
        have hvx : VCs holdK (ks.map Kd.p) (x.cms.map Cm.p) := (HV.out.ok x.p (List.mem_map_of_mem (List.mem_of_getElem? hx))).2.2
        have hxi : (its.map It.p)[i]? = some x.p := by rw [List.getElem?_map, hx]; rfl
        obtain ⟨N, hN1, hN2⟩ := HI.out.2.rest i x.p (Nat.le_refl _) hxi
        have hN1 : x.e = N := hN1
        have hN2 : G1[N]? = some x.g := hN2
        have hg01 : 0 ≤ x.g ∧ x.g ≤ 1073741824 := HI.out.2.hi _ (List.mem_of_getElem? hN2)
        have hNn : N < gn := by
          have h1 := (List.getElem?_eq_some_iff.1 hN2).1
          have h2 : G1.length = G.length := HI.out.2.len
          have h3 := HLE.out
          omega
        have hxcap := hxo.cs.cap
        have hxcap2 := hxo.cs.cap2
        have HXL : Hid (x.n = x.cms.length) := Lib.hid hxo.cs.len
        have hx16 : x.n ≤ 16 := by
          have h1 := VCs.len_le hvx
          have h2 := HXL.out
          simp at h1
          have h3 := HLE.out
          omega
        have HXC : Hid (CsOk wo w.heap.size x.A x.n x.c x.cms ∧ VCs holdK (ks.map Kd.p) (x.cms.map Cm.p)) := Lib.hid ⟨hxo.cs, hvx⟩
        have HXI : Hid ((its.map It.p)[i]? = some x.p ∧ G1[N]? = some x.g ∧ x.e = N) := Lib.hid ⟨hxi, hN2, hN1⟩
        rw [hN1] at q0
        clear hx hcw hxo hvx hxi hN2 hN1
        generalize hxg : x.g = xg at *
        generalize hxA : x.A = xA at *
        generalize hxn : x.n = xn at *
        generalize hxc : x.c = xc at *
        have HXV := Lib.hid (And.intro hxg (And.intro hxA (And.intro hxn hxc)))
        clear hxg hxA hxn hxc
        obtain ⟨H, hH⟩ : ∃ H, H = wo.heap.size := ⟨_, rfl⟩
        obtain ⟨w1, hw1⟩ : ∃ w1, w1 = (wo.alloc (.cells #[.int .i64 N, .int .i64 xg, .slice xA xn xc] 147)).alloc (.cells #[.int .i64 N, .int .i64 xg, .slice none 0 0] 147) := ⟨_, rfl⟩
        have HB1 : Hid (Below wo.heap.size wo w1) := Lib.hid (by rw [hw1]; exact Below.al (Below.al (Below.refl _ _) _) _)
        have HIT1 : Hid (Bk w1 H 147 #[.int .i64 N, .int .i64 xg, .slice xA xn xc]) := Lib.hid (by rw [hw1, hH]; exact (Bk.new _ _ _).alloc _)
        have HXB1 : Hid (Bk w1 (H + 1) 147 #[.int .i64 N, .int .i64 xg, .slice none 0 0]) := Lib.hid (by rw [hw1, hH]; exact Bk.two _ _ _ _)
        have HS1 : Hid (StrSt w1 B s) := Lib.hid (HS.out.below HB1.out (HS.out.lo hBs))
        have HQ1 : Hid (Fq [s] wo w1) := Lib.hid (Fq.of_below HB1.out)
        have hWo : W0.heap.size ≤ wo.heap.size := HQ.out.size
        have hsH : s < H := by omega
        have HL0 : Hid (LI H (H + 1) N xg (ks.map Kd.p) (x.cms.map Cm.p) w1 0 0 none 0 []) := Lib.hid ⟨HXB1.out, World.ownsRow_nil _ _ _ _, rfl, (fun z hz => by cases hz), CcI.zero, (fun z hz => by cases hz), by omega⟩
        have HHH := Lib.hid hH
        clear hH
        go_wp2_with fail
        rw [← hw1, ← HHH.out]
        clear hw1 q0 q1 q2 HXB1 HIT1 HB1
        go_loopw [37] (fun jv wx => ∃ (j p oc : Nat) (OA : Option Addr) (cl : List Cm), j ≤ xn ∧ p ≤ j ∧ jv = .int .i64 j ∧ Hid (LI H (H + 1) N xg (ks.map Kd.p) (x.cms.map Cm.p) wx j p OA oc cl) ∧ Hid (StrSt wx B s) ∧ Hid (Fq [s] wo wx)) (fun jv _ => xn - (intOf jv).toNat)
        case atStart => exact ⟨0, 0, 0, none, [], Nat.zero_le _, Nat.le_refl _, rfl, HL0, HS1, HQ1⟩
        case round =>
          clear HL0 HS1 HQ1
          obtain ⟨j, p, oc, OA, cl, hj, hpj, rfl, HL, HSx, HQx⟩ := hrel
          obtain ⟨wm, rfl⟩ : ∃ x, x = wr := ⟨_, rfl⟩
          have HQm : Hid (Fq [s] W0 wm) := Lib.hid (HQ.out.trans HQx.out (SubF.refl _ _))
          by_cases hjl : j < xn
          · have hjz : (j : Int) < xn := by omega
            obtain ⟨cm, hcm⟩ : ∃ cm, x.cms[j]? = some cm := ⟨_, List.getElem?_eq_getElem (by have h := HXL.out; omega)⟩
            have hwoB : Below w.heap.size wo wm := HQx.out.below (fun k hk => by rw [show k = s by simpa using hk]; omega) (by omega)
            have hcs := HXC.out.1.below hwoB
            have hco := hcs.ok cm (List.mem_of_getElem? hcm)
            obtain ⟨b', o', rfl, hbb', p0, p1⟩ := hcs.rd.cm hjl hcm
            obtain ⟨kk, d, hk1, hk2, hk3⟩ := HXC.out.2.ok cm.p (List.mem_map_of_mem (List.mem_of_getElem? hcm))
            obtain ⟨kd, hkd, rfl⟩ := at_map hk2
            have hk1 : cm.k = kk := hk1
            have hk3 : holdK kd.p cm.vals = true := hk3
            have hkl : kk < kn := by have := (List.getElem?_eq_some_iff.1 hkd).1; have h := HLE.out; omega
            have hv8 := holdK_small hk3
            have hcl := hco.len
            have HFL : Hid (cm.vals.length = kd.fds.length) := Lib.hid (holdK_iff.1 hk3).2.1
            have hmw : w.heap.size ≤ wm.heap.size := by have := HQx.out.size; omega
            have HCL : Hid (∀ wx, Below wm.heap.size wm wx → Calls Try.prog 103 #[.slice cm.A cm.n cm.c] wx (RetS wx 3 1 cm.n (cm.vals.map (Value.int .i64)))) := Lib.hid fun wx hb => cloneInts_any cm.A cm.n cm.c w.heap.size (cm.vals.map (Value.int .i64)) wx (hco.rd.below (hb.mono hmw)) (by intro u hu; obtain ⟨z, _, rfl⟩ := List.mem_map.1 hu; rfl) (Nat.le_trans hmw hb.size) (by omega)
            have HCI : Hid ((x.cms.map Cm.p)[j]? = some cm.p ∧ cm.k = kk ∧ (ks.map Kd.p)[kk]? = some kd.p) := Lib.hid ⟨by rw [List.getElem?_map, hcm]; rfl, hk1, hk2⟩
            have HKD : Hid (ks[kk]? = some kd) := Lib.hid hkd
            have HH3 := Lib.hid hk3
            rw [hk1] at p0
            have HVL := Lib.hid hcl
            have hvn8 : cm.n ≤ 8 := by omega
            clear hcm hcs hco hk1 hk2 hk3 hkd hwoB hcl
            generalize hcA : cm.A = vA at *
            generalize hcn : cm.n = vn at *
            generalize hcc : cm.c = vcc at *
            clear hcA hcn hcc
            obtain ⟨w2, hw2⟩ : ∃ w2, w2 = wm.alloc (.cells #[.int .i64 kk, .slice vA vn vcc] 166) := ⟨_, rfl⟩
            have HB2 : Hid (Below wm.heap.size wm w2) := Lib.hid (by rw [hw2]; exact Below.al (Below.refl _ _) _)
            have HC2 : Hid (Bk w2 wm.heap.size 166 #[.int .i64 kk, .slice vA vn vcc]) := Lib.hid (by rw [hw2]; exact Bk.new _ _ _)
            have HS2 : Hid (StrSt w2 B s) := Lib.hid (HSx.out.below HB2.out (HSx.out.lo hBs))
            have HQ2 : Hid (Fq [s] W0 w2) := Lib.hid (HQm.out.trans (Fq.of_below HB2.out) (SubF.refl _ _))
            have hHm : H ≤ wm.heap.size := by have := HQx.out.size; have := HHH.out; omega
            have hm2 : wm.heap.size < w2.heap.size := HC2.out.lt
            obtain ⟨hc, hhc⟩ : ∃ hc, hc = wm.heap.size := ⟨_, rfl⟩
            have HHC := Lib.hid hhc
            have hhcH : H ≤ hc := by omega
            have hhc2 : hc < w2.heap.size := by omega
            clear hhc
            go_wp2_with fail
            rw [← hw2]
            clear hw2 p0 p1
            rw [← HHC.out] at HC2 ⊢
            (with_reducible refine (HCL.out w2 HB2.out).mono ?_)
            rintro e w3 ⟨VA, vc, rfl, hown3, hb3⟩
            have HV3 : Hid (VI w2.heap.size s B w2 kd.p w3 vn VA vc cm.vals) := Lib.hid ⟨hown3, HH3.out, HVL.out.symm, HS2.out.below hb3 (HS2.out.lo hBs), Fq.of_below hb3⟩
            clear hown3 hb3 HCL
            go_wp2_with fail
            go_loopw [46] (fun fv wy => ∃ (f : Nat) (V : List Int), f ≤ vn ∧ fv = .int .i64 f ∧ Hid (VI w2.heap.size s B w2 kd.p wy vn VA vc V)) (fun fv _ => vn - (intOf fv).toNat)
            case atStart => exact ⟨0, cm.vals, Nat.zero_le _, rfl, HV3⟩
            case round =>
              clear HV3
              obtain ⟨f, V, hf, rfl, HVI⟩ := hrel
              have HQy : Hid (Fq [s] W0 wr) := Lib.hid (HQ2.out.trans HVI.out.fq (SubF.refl _ _))
              have hC2r : Bk wr hc 166 #[.int .i64 kk, .slice vA vn vcc] := (HVI.out.fq.low hc HC2.out.lt (by simp; omega)).trans HC2.out
              have g0 : wr.cell? ⟨hc, 0, none⟩ = some (.int .i64 kk) := hC2r.cell 0
              by_cases hfl : f < vn
              · have hfz : (f : Int) < vn := by omega
                have hf0 : (0 : Int) ≤ f := by omega
                obtain ⟨fd, hfd⟩ : ∃ fd, kd.fds[f]? = some fd := ⟨_, List.getElem?_eq_getElem (by have h1 := HVL.out; have h2 := HFL.out; omega)⟩
                have hkw := HKY.out.keep (F := []) (Kx.of_below (B := 0) (HBW.out wr HQy.out)) (by simp) (by simp)
                obtain ⟨kb, ko, rfl, hkb, r0, r1⟩ := hkw.rd.rd.kd hkl HKD.out
                have hko := hkw.ok kd (List.mem_of_getElem? HKD.out)
                have hkf : kd.n = kd.fds.length := hko.len
                obtain ⟨fb, fo, hfA, hfb, e0, e1, e2⟩ := hko.rd.rd.fd (show f < kd.n by have h1 := HVL.out; have h2 := HFL.out; omega) hfd
                have hfok := field_ok (holdK_fld HVI.out.hold (List.mem_of_getElem? hfd))
                have g1 : wr.cell? ⟨w.heap.size, 0, none⟩ = some (.slice (some ⟨kb, ko, none⟩) kn kc) := (HWB.out wr HQy.out).cell 0
                have hkkz : (kk : Int) < kn := by omega
                have hkk0 : (0 : Int) ≤ kk := by omega
                have hfn : (f : Int) < kd.n := by have h1 := HVL.out; have h2 := HFL.out; omega
                have HFD := Lib.hid hfd
                rw [hfA] at r1
                clear hfd hkw hko hfA r0
                generalize hkdn : kd.n = fdn at *
                generalize hkdc : kd.c = fdc at *
                clear hkdn hkdc hkf
                generalize hfnm : fd.nm = fnm at *
                obtain ⟨bt, hbt⟩ : ∃ bt : Nat, fd.bits = bt := ⟨fd.bits.toNat, by omega⟩
                generalize hlo : fd.low = lo at *
                rw [hbt] at e1 hfok
                have p1 := pow2_one bt
                have p2 := pow2_32 bt (by omega)
                obtain ⟨M, hM⟩ : ∃ M, M = (2 : Int) ^ bt := ⟨_, rfl⟩
                rw [← hM] at p1 p2
                have hsh : wrap64 ((2 : Int) ^ bt) = M := by rw [← hM]; exact wrap_small (Int.le_trans (by decide) p1) (Int.le_trans p2 (by decide))
                have hsh2 : IntKind.i64.wrap ((2 : Int) ^ bt) = M := by rw [← hM]; exact wrap_small2 (Int.le_trans (by decide) p1) (Int.le_trans p2 (by decide))
                have HM := Lib.hid hM
                clear hM
                have HP := Lib.hid (And.intro p1 p2)
                have HFV := Lib.hid (And.intro hbt hlo)
                have hb32 : bt ≤ 32 := by omega
                have hb0 : (0 : Int) ≤ bt := by omega
                have hlo1 : -4294967296 ≤ lo := hfok.2.2.1
                have hlo2 : lo ≤ 4294967296 := hfok.2.2.2
                clear hfok p1 p2 hbt hlo hfnm
                obtain ⟨w5, hw5⟩ : ∃ w5, w5 = wr.alloc (.cells #[.string fnm, .int .i64 bt, .int .i64 lo] 66) := ⟨_, rfl⟩
                have hB5 : Below wr.heap.size wr w5 := by rw [hw5]; exact Below.al (Below.refl _ _) _
                have hD5 : Bk w5 wr.heap.size 66 #[.string fnm, .int .i64 bt, .int .i64 lo] := by rw [hw5]; exact Bk.new _ _ _
                have HV5 := Lib.hid (HVI.out.below hB5 hBs)
                have hwrs : w2.heap.size ≤ wr.heap.size := HVI.out.fq.size
                go_wp2_with fail
                rw [← hw5]
                clear hw5 e0 e1 e2 g0 g1 r1
                (with_reducible refine (HNX.out s B 4 _ HV5.out.st hBs (by omega) (by omega)).mono ?_)
                rintro e w6 ⟨v, rfl, hv0, hv1, hst6, hg6⟩
                have HV6 := Lib.hid (HV5.out.next hg6 hst6 (by omega))
                have hD6 : Bk w6 wr.heap.size 66 #[.string fnm, .int .i64 bt, .int .i64 lo] := hD5.grown hg6 (fun e => by injection e with e; omega)
                clear hst6 hg6 hD5 hB5 HV5
                by_cases hv2 : v = 0
                · have t2 : (v == 0) = true := by simp [hv2]
                  clear hv2
                  obtain ⟨gV, rfl, hgV, hgV2⟩ := own_at HV6.out.own (by omega)
                  obtain ⟨dd, hdd⟩ : ∃ dd, dd = wr.heap.size := ⟨_, rfl⟩
                  rw [← hdd] at hD6
                  have HDD := Lib.hid hdd
                  clear hdd
                  have s6 : w6.drew.cell? ⟨dd, 1, none⟩ = some (.int .i64 bt) ∧ w6.drew.cell? ⟨dd, 2, none⟩ = some (.int .i64 lo) := ⟨hD6.cell 1, hD6.cell 2⟩
                  go_wp2_with fail
                  rw [← HDD.out]
                  refine wp_region_E (S := fun wx => wx.cell? ⟨dd, 1, none⟩ = some (.int .i64 bt) ∧ wx.cell? ⟨dd, 2, none⟩ = some (.int .i64 lo)) (last := 11) (by kernel_rfl) ?_
                  refine wpAnyE_val (i := 0) (v := .slice (some ⟨gV, 0, none⟩) vn vc) (d := some 62) rfl rfl (by kernel_rfl) (by kernel_rfl) (by kernel_rfl) (by kernel_rfl) (fun _ _ _ h => h) (Or.inl ⟨by rfl, fun w hS => by (obtain ⟨h0, h1⟩ := hS; go_simp)⟩) s6 ?_
                  (try simp only [Act.put, List.setIfInBounds_toArray, List.set_cons_zero, List.set_cons_succ])
                  refine wpAnyE_val (i := 1) (v := .int .i64 (f : Int)) (d := some 63) rfl rfl (by kernel_rfl) (by kernel_rfl) (by kernel_rfl) (by kernel_rfl) (fun _ _ _ h => h) (Or.inl ⟨by rfl, fun w hS => by (obtain ⟨h0, h1⟩ := hS; go_simp)⟩) s6 ?_
                  (try simp only [Act.put, List.setIfInBounds_toArray, List.set_cons_zero, List.set_cons_succ])
                  refine wpAnyE_val (i := 2) (v := .pointer (some ⟨dd, 2, none⟩)) (d := some 64) rfl rfl (by kernel_rfl) (by kernel_rfl) (by kernel_rfl) (by kernel_rfl) (fun _ _ _ h => h) (Or.inl ⟨by rfl, fun w hS => by (obtain ⟨h0, h1⟩ := hS; go_simp)⟩) s6 ?_
                  (try simp only [Act.put, List.setIfInBounds_toArray, List.set_cons_zero, List.set_cons_succ])
                  refine wpAnyE_val (i := 3) (v := .int .i64 lo) (d := some 65) rfl rfl (by kernel_rfl) (by kernel_rfl) (by kernel_rfl) (by kernel_rfl) (fun _ _ _ h => h) (Or.inl ⟨by rfl, fun w hS => by (obtain ⟨h0, h1⟩ := hS; go_simp)⟩) s6 ?_
                  (try simp only [Act.put, List.setIfInBounds_toArray, List.set_cons_zero, List.set_cons_succ])
                  refine wpAnyE_val (i := 4) (v := .pointer (some ⟨s, 0, none⟩)) (d := some 66) rfl rfl (by kernel_rfl) (by kernel_rfl) (by kernel_rfl) (by kernel_rfl) (fun _ _ _ h => h) (Or.inl ⟨by rfl, fun w hS => by (obtain ⟨h0, h1⟩ := hS; go_simp)⟩) s6 ?_
                  (try simp only [Act.put, List.setIfInBounds_toArray, List.set_cons_zero, List.set_cons_succ])
                  refine wpAnyE_val (i := 5) (v := .pointer (some ⟨dd, 1, none⟩)) (d := some 67) rfl rfl (by kernel_rfl) (by kernel_rfl) (by kernel_rfl) (by kernel_rfl) (fun _ _ _ h => h) (Or.inl ⟨by rfl, fun w hS => by (obtain ⟨h0, h1⟩ := hS; go_simp)⟩) s6 ?_
                  (try simp only [Act.put, List.setIfInBounds_toArray, List.set_cons_zero, List.set_cons_succ])
                  refine wpAnyE_val (i := 6) (v := .int .i64 bt) (d := some 68) rfl rfl (by kernel_rfl) (by kernel_rfl) (by kernel_rfl) (by kernel_rfl) (fun _ _ _ h => h) (Or.inl ⟨by rfl, fun w hS => by (obtain ⟨h0, h1⟩ := hS; go_simp)⟩) s6 ?_
                  (try simp only [Act.put, List.setIfInBounds_toArray, List.set_cons_zero, List.set_cons_succ])
                  refine wpAnyE_val (i := 7) (v := .int .i64 M) (d := some 69) rfl rfl (by kernel_rfl) (by kernel_rfl) (by kernel_rfl) (by kernel_rfl) (fun _ _ _ h => h) (Or.inl ⟨by rfl, fun w hS => by (obtain ⟨h0, h1⟩ := hS; go_simp)⟩) s6 ?_
                  (try simp only [Act.put, List.setIfInBounds_toArray, List.set_cons_zero, List.set_cons_succ])
                  refine wpAnyE_one (i := 8) rfl (by kernel_rfl) rfl ?_
                  go_simp
                  (with_reducible refine (HNX.out s B M _ HV6.out.drew.st hBs HP.out.1 ?hM).mono ?_)
                  case hM => (have h := HP.out.2; omega)
                  rintro e w7 ⟨v7, rfl, hv70, hv71, hst7, hg7⟩
                  have HV7 := Lib.hid (HV6.out.drew.next hg7 hst7 (by omega))
                  have hD7 := hD6.drew.grown hg7 (fun e => by injection e with e; have := HDD.out; omega)
                  have hwv : IntKind.i64.wrap (lo + v7) = lo + v7 := by (have h := HP.out.2; exact wrap_small2 (by omega) (by omega))
                  have s7 : w7.cell? ⟨dd, 1, none⟩ = some (.int .i64 bt) ∧ w7.cell? ⟨dd, 2, none⟩ = some (.int .i64 lo) := ⟨hD7.cell 1, hD7.cell 2⟩
                  have hVf : f < V.length := by have := HV7.out.len; omega
                  have c7 : w7.cell? ⟨gV, f, none⟩ = some (.int .i64 (V.getD f 0)) := (HV7.out.own.cellAt f (by omega)).trans (intsV_get V f hVf)
                  have f7 : w7.frozen? ⟨gV, f, none⟩ = false := HV7.out.own.frozenAt f
                  refine ⟨s7, ?_⟩
                  (try simp only [Act.put, List.setIfInBounds_toArray, List.set_cons_zero, List.set_cons_succ])
                  refine wpAnyE_val (i := 9) (v := .int .i64 (lo + v7)) (d := some 71) rfl rfl (by kernel_rfl) (by kernel_rfl) (by kernel_rfl) (by kernel_rfl) (fun _ _ _ h => h) (Or.inl ⟨by rfl, fun w hS => by (obtain ⟨h0, h1⟩ := hS; go_simp)⟩) s7 ?_
                  (try simp only [Act.put, List.setIfInBounds_toArray, List.set_cons_zero, List.set_cons_succ])
                  refine wpAnyE_val (i := 10) (v := .pointer (some ⟨gV, f, none⟩)) (d := some 72) rfl rfl (by kernel_rfl) (by kernel_rfl) (by kernel_rfl) (by kernel_rfl) (fun _ _ _ h => h) (Or.inl ⟨by rfl, fun w hS => by (obtain ⟨h0, h1⟩ := hS; go_simp)⟩) s7 ?_
                  (try simp only [Act.put, List.setIfInBounds_toArray, List.set_cons_zero, List.set_cons_succ])
                  refine wpAnyE_one (i := 11) rfl (by kernel_rfl) rfl ?_
                  go_simp
                  refine wpAnyE_done (by kernel_rfl) ?_ _
                  have HVN := Lib.hid (HV7.out.put (Nat.le_refl _) (by omega) hBs (k := f) (f := fd) (u := lo + v7) HFD.out (by rw [HFV.out.2]; omega) (by rw [HFV.out.1, HFV.out.2, Int.toNat_natCast, ← HM.out]; omega))
                  clear hst7 hg7 hD7 hwv s7 s6 c7 f7 hD6 HV7 HV6
                  go_wp2_with fail
                  go_roundw
                  case rel => exact ⟨f + 1, V.set f (lo + v7), by omega, by go_num, HVN⟩
                  case measure => simp [intOf]; omega
                · have t2 : (v == 0) = false := by simp [hv2]
                  clear hv2 hD6
                  go_wp2_with fail
                  go_roundw
                  case rel => exact ⟨f + 1, V, by omega, by go_num, HV6⟩
                  case measure => simp [intOf]; omega
              · obtain rfl : vn = f := by omega
                have hsH2 : s < w2.heap.size := by omega
                go_wp2_with fail
                (with_reducible refine (HNX.out s B 8 _ HVI.out.st hBs (by omega) (by omega)).mono ?_)
                rintro e w7 ⟨v, rfl, hv0, hv1, hst7, hg7⟩
                have HV7 := Lib.hid (HVI.out.next hg7 hst7 hsH2)
                have hkx : Kx 0 [189] wm w7 := (Kx.of_below (B := 0) (F := [189]) HB2.out).trans (Kx.fq (B' := 0) HV7.out.fq HS2.out (Nat.zero_le _))
                have HL7 := Lib.hid (HL.out.kx hkx (by decide) (by decide) (by decide))
                have HQ7 : Hid (Fq [s] wo w7) := Lib.hid ((HQx.out.trans (Fq.of_below HB2.out) (SubF.refl _ _)).trans HV7.out.fq (SubF.refl _ _))
                have hC7 : Bk w7 hc 166 #[.int .i64 kk, .slice vA vn vcc] := (HV7.out.fq.low hc HC2.out.lt (by simp; omega)).trans HC2.out
                clear hkx hst7 hg7 hC2r g0
                by_cases hv2 : 0 < v
                · have t2 : v > 0 := hv2
                  have k0 : w7.cell? ⟨hc, 0, none⟩ = some (.int .i64 kk) := hC7.cell 0
                  have k2 : w7.cell? ⟨H + 1, 2, none⟩ = some (.slice OA p oc) := HL7.out.bx.cell 2
                  have hw7 : w2.heap.size ≤ w7.heap.size := HV7.out.fq.size
                  clear hC7
                  go_wp2_with
                    (at_builtin
                     go_must (refine wpList_append_one _ rfl (.tmp 78) (.tmp 83) _ rfl H 166 i1 (.agg #[.int .i64 0, .slice none 0 0]) 2 32 Try.underlying38 hi1 hz10 hz11 hz12 rfl (by decide) (.slice OA p oc) p (cmCs cl) rfl (HL7.out.own.alloc _) w7.heap.size 1 166 #[.int .i64 kk, .slice VA vn vc] rfl (Bk.new _ _ _) rfl ?c1 (p + 1) rfl ?c2 ?c3 ?c4 ?_)
                     case c1 => simp [Value.oneCell']
                     case c2 => unfold maxLen; omega
                     case c3 => omega
                     case c4 => (simp; omega)
                     intro g8 c8 w8 hown8 hg8 hat8
                     have hx8 := (HL7.out.bx.alloc (.cells #[.int .i64 kk, .slice VA vn vc] 166)).grown hg8 (fun e => own_ne HL7.out.own HL7.out.bx (by decide) e.symm)
                     have k8 : w8.cell? ⟨H + 1, 2, none⟩ = some (.slice OA p oc) := hx8.cell 2
                     have f8 : w8.frozen? ⟨H + 1, 2, none⟩ = false := hx8.frozen 2)
                  have hLN := HL7.out.snoc (z := ⟨kk, VA, vn, vc, V⟩) (M := cl.map Cm.p ++ [(cm.p.1, V)]) (HV7.out.cm (wf_i64 (by show _ ≤ ((kk : Nat) : Int); omega) (by show ((kk : Nat) : Int) ≤ _; omega))) (fun b o hA => by
                      have h := (HV7.out.own.lt b (by rw [show VA = some ⟨b, o, none⟩ from hA]; rfl)).1
                      omega) (by show cl.map Cm.p ++ [(cm.k, V)] = cl.map Cm.p ++ [((kk : Int), V)]; rw [HCI.out.2.1]) (HL7.out.cc.keep HXC.out.2 HCI.out.1 HCI.out.2.1 HCI.out.2.2 HV7.out.hold) hown8 hg8
                  have HSN : Hid (StrSt (w8.setCell ⟨H + 1, 2, none⟩ (.slice (some ⟨g8, 0, none⟩) (p + 1) c8)) B s) := Lib.hid (HV7.out.st.kx (hLN.2.mono (B' := B) (by omega) (fun _ h => h)) (Nat.le_refl _) (HV7.out.st.lo hBs) (by decide))
                  have HQN : Hid (Fq [s] wo (w8.setCell ⟨H + 1, 2, none⟩ (.slice (some ⟨g8, 0, none⟩) (p + 1) c8))) := Lib.hid (((HQ7.out.alloc _).grown hg8 (fun g hg => .inr (by have := (HL7.out.own.lt g hg).1; have := HHH.out; omega))).set (.inr (by have := HHH.out; omega)) 2 _)
                  have HLN := Lib.hid hLN.1
                  clear hLN hown8 hg8 hat8 hx8 k8 f8 k0 k2 HL7 HV7 HQ7
                  go_wp2_with fail
                  go_roundw
                  case rel => exact ⟨j + 1, p + 1, c8, some ⟨g8, 0, none⟩, cl ++ [⟨kk, VA, vn, vc, V⟩], by omega, by omega, by go_num, HLN, HSN, HQN⟩
                  case measure => simp [intOf]; omega
                · have t2 : ¬ v > 0 := hv2
                  clear hC7
                  go_wp2_with fail
                  go_roundw
                  case rel => exact ⟨j + 1, p, oc, OA, cl, by omega, by omega, by go_num, Lib.hid HL7.out.skip, Lib.hid HV7.out.st, HQ7⟩
                  case measure => simp [intOf]; omega
          · obtain rfl : xn = j := by omega
            have hkx : Kx 0 [189] wo wm := Kx.fq (B' := 0) HQx.out HS.out (Nat.zero_le _)
            have HIm := Lib.hid (HI.out.1.kx hkx (by decide) (by decide) (by decide) (by decide) (by decide) (by decide))
            go_wp2_with fail
            (with_reducible refine (HNX.out s B 8 _ HSx.out hBs (by omega) (by omega)).mono ?_)
            rintro e w4 ⟨v, rfl, hv0, hv1, hst4, hg4⟩
            have hk4 : Kx 0 [189] wm w4 := Kx.fq (B' := 0) ((Fq.refl (w := wm)).grown hg4 fun g hg => .inl (by injection hg with hg; simp [hg])) HSx.out (Nat.zero_le _)
            have HI4 := Lib.hid (HIm.out.kx hk4 (by decide) (by decide) (by decide) (by decide) (by decide) (by decide))
            have HL4 := Lib.hid (HL.out.kx hk4 (by decide) (by decide) (by decide))
            have HQ4 : Hid (Fq [s] W0 w4) := Lib.hid (HQm.out.grown hg4 fun g hg => .inl (by injection hg with hg; simp [hg]))
            have HS4 := Lib.hid hst4
            have hw4 : W0.heap.size ≤ w4.heap.size := HQ4.out.size
            clear hkx hk4 hst4 hg4 HIm HL HSx HQx HQm
            by_cases hv2 : v = 0
            · have t2 : (v == 0) = true := by simp [hv2]
              clear hv2
              obtain ⟨gG, rfl, hgG, hgG2⟩ := own_at HI4.out.gown (by omega)
              have k1 : w4.cell? ⟨ho, 1, none⟩ = some (.slice (some ⟨gG, 0, none⟩) gn gc') := HI4.out.bo.cell 1
              have k0 : w4.cell? ⟨H + 1, 0, none⟩ = some (.int .i64 N) := HL4.out.bx.cell 0
              have kg : w4.cell? ⟨gG, N, none⟩ = some (.int .i64 xg) := by
                rw [HI4.out.gown.cellAt N (by omega), List.getElem?_map, HXI.out.2.1]; rfl
              have kf : w4.frozen? ⟨gG, N, none⟩ = false := HI4.out.gown.frozenAt N
              have hNz : (N : Int) < gn := by omega
              have hN0 : (0 : Int) ≤ N := by omega
              have hwv : IntKind.i64.wrap (xg + 1) = xg + 1 := wrap_small2 (by omega) (by omega)
              go_wp2_with fail
              have hP := HI4.out.put N (xg + 1)
              have HSN : Hid (StrSt (w4.setCell ⟨gG, N, none⟩ (.int .i64 (xg + 1))) B s) := Lib.hid (HS4.out.kx (hP.2.mono (B' := B) (by omega) (fun _ h => h)) (Nat.le_refl _) (HS4.out.lo hBs) (by decide))
              have HQN : Hid (Fq [s] W0 (w4.setCell ⟨gG, N, none⟩ (.int .i64 (xg + 1)))) := Lib.hid (HQ4.out.set (.inr hgG) N _)
              have hCH := ChI.drop HV.out HI.out.2 HXI.out.1 HXI.out.2.2
              have HIN : Hid (WI r ho W0.heap.size (w4.setCell ⟨gG, N, none⟩ (.int .i64 (xg + 1))) kA kn kc ks (some ⟨gG, 0, none⟩) gn gc' (G1.set N (xg + 1)) IA1 q ic1 l1 ∧ ChI holdK (⟨ks.map Kd.p, G, its.map It.p⟩ : Wv Kp2) (i + 1) (G1.set N (xg + 1)) (l1.map It.p)) := Lib.hid ⟨hP.1, by have h := hCH; rw [show x.p.1.2 = xg from HXV.out.1] at h; exact h⟩
              clear hP hCH k1 k0 kg kf hwv HI4 HL4 HQ4 HS4
              go_roundw
              case rel => exact ⟨i + 1, q, ic1, IA1, G1.set N (xg + 1), l1, by omega, by omega, by go_num, HIN, HSN, HQN⟩
              case measure => simp [intOf]; omega
            · have t2 : (v == 0) = false := by simp [hv2]
              clear hv2
              have k2 : w4.cell? ⟨ho, 2, none⟩ = some (.slice IA1 q ic1) := HI4.out.bo.cell 2
              have x0 : w4.cell? ⟨H + 1, 0, none⟩ = some (.int .i64 N) := HL4.out.bx.cell 0
              have x1 : w4.cell? ⟨H + 1, 1, none⟩ = some (.int .i64 xg) := HL4.out.bx.cell 1
              have x2 : w4.cell? ⟨H + 1, 2, none⟩ = some (.slice OA p oc) := HL4.out.bx.cell 2
              go_wp2_with
                (at_builtin
                 go_must (refine wpList_append_one _ rfl (.tmp 100) (.tmp 102) _ rfl W0.heap.size 147 iI (.agg #[.int .i64 0, .int .i64 0, .slice none 0 0]) 3 40 Try.underlying50 hiI hzI0 hzI1 hzI2 rfl (by decide) (.slice IA1 q ic1) q (itCs l1) rfl (HI4.out.iown.alloc _) w4.heap.size 1 147 #[.int .i64 N, .int .i64 xg, .slice OA p oc] rfl (Bk.new _ _ _) rfl ?c1 (q + 1) rfl ?c2 ?c3 ?c4 ?_)
                 case c1 => simp [Value.oneCell']
                 case c2 => unfold maxLen; omega
                 case c3 => omega
                 case c4 => (simp; omega)
                 intro gA cA wA hownA hgA hatA
                 have hboA := (HI4.out.bo.alloc (.cells #[.int .i64 N, .int .i64 xg, .slice OA p oc] 147)).grown hgA (fun e => own_ne HI4.out.iown HI4.out.bo (by decide) e.symm)
                 have kA2 : wA.cell? ⟨ho, 2, none⟩ = some (.slice IA1 q ic1) := hboA.cell 2
                 have fA2 : wA.frozen? ⟨ho, 2, none⟩ = false := hboA.frozen 2)
              have hcap := own_cap2 HL4.out.own
              have hIT : ItY w4 0 (⟨N, xg, OA, p, oc, cl⟩ : It) := ⟨⟨.of_own HL4.out.own, HL4.out.len, hcap.1, hcap.2, HL4.out.ok⟩, wf_i64 (by show _ ≤ ((N : Nat) : Int); omega) (by show ((N : Nat) : Int) ≤ _; omega), wf_i64 (by show _ ≤ xg; omega) (by show xg ≤ _; omega)⟩
              have hNO : NoB (Value.slice gA' gn gc').ownBlock (⟨N, xg, OA, p, oc, cl⟩ : It).cms := NoB.of_fr HL4.out.fr (fun g hg => ⟨Nat.zero_le _, by have := (HI.out.1.gown.lt g hg).2; have := HHH.out; omega⟩)
              have hWI := HI4.out.item hIT hNO hownA hgA
              have hkB : Kx B [147, 52] w4 (wA.setCell ⟨ho, 2, none⟩ (.slice (some ⟨gA, 0, none⟩) (q + 1) cA)) := (((Kx.refl (B := B)).alloc _).grown (HI4.out.iown.alloc _) hgA (by omega) (by simp)).set hboA (by omega) (by simp) 2 _
              have HSN : Hid (StrSt (wA.setCell ⟨ho, 2, none⟩ (.slice (some ⟨gA, 0, none⟩) (q + 1) cA)) B s) := Lib.hid (HS4.out.kx hkB (Nat.le_refl _) (HS4.out.lo hBs) (by decide))
              have HQN : Hid (Fq [s] W0 (wA.setCell ⟨ho, 2, none⟩ (.slice (some ⟨gA, 0, none⟩) (q + 1) cA))) := Lib.hid (((HQ4.out.alloc _).grown hgA (fun g hg => .inr (HI4.out.iown.lt g hg).1)).set (.inr (by omega)) 2 _)
              have hCH := ChI.keep HV.out HI.out.2 HXI.out.1 HL4.out.cc.done
              have HIN : Hid (WI r ho W0.heap.size (wA.setCell ⟨ho, 2, none⟩ (.slice (some ⟨gA, 0, none⟩) (q + 1) cA)) kA kn kc ks gA' gn gc' G1 (some ⟨gA, 0, none⟩) (q + 1) cA (l1 ++ [(⟨N, xg, OA, p, oc, cl⟩ : It)]) ∧ ChI holdK (⟨ks.map Kd.p, G, its.map It.p⟩ : Wv Kp2) (i + 1) G1 ((l1 ++ [(⟨N, xg, OA, p, oc, cl⟩ : It)]).map It.p)) := Lib.hid ⟨hWI.1, by
                rw [List.map_append]
                have h := hCH
                rw [show x.p.1 = ((N : Int), xg) by show (x.e, x.g) = _; rw [HXI.out.2.2, HXV.out.1]] at h
                exact h⟩
              clear hWI hkB hCH hIT hNO hcap hownA hgA hatA hboA kA2 fA2 k2 x0 x1 x2 HI4 HL4 HQ4 HS4
              go_wp2_with fail
              go_roundw
              case rel => exact ⟨i + 1, q + 1, cA, some ⟨gA, 0, none⟩, G1, l1 ++ [(⟨N, xg, OA, p, oc, cl⟩ : It)], by omega, by omega, by go_num, HIN, HSN, HQN⟩
              case measure => simp [intOf]; omega
      · obtain rfl : im = i := by omega
        have hrh : r ≠ ho := by omega
        have hrh2 : ho ≠ r := by omega
        go_wp2_with fail
        (with_reducible refine (HNX.out s B 3 _ HS.out hBs (by omega) (by omega)).mono ?_)
        rintro e w4 ⟨v, rfl, hv0, hv1, hst4, hg4⟩
        have hk4 : Kx 0 [189] wo w4 := Kx.fq (B' := 0) ((Fq.refl (w := wo)).grown hg4 fun g hg => .inl (by injection hg with hg; simp [hg])) HS.out (Nat.zero_le _)
        have HI4 := Lib.hid (HI.out.1.kx hk4 (by decide) (by decide) (by decide) (by decide) (by decide) (by decide))
        have HQ4 : Hid (Fq [s] W0 w4) := Lib.hid (HQ.out.grown hg4 fun g hg => .inl (by injection hg with hg; simp [hg]))
        have hw4 : W0.heap.size ≤ w4.heap.size := HQ4.out.size
        clear hk4 hst4 hg4
        by_cases hv2 : v = 0
        · have t2 : (v == 0) = true := by simp [hv2]
          clear hv2
          have k1 : w4.cell? ⟨ho, 1, none⟩ = some (.slice gA' gn gc') := HI4.out.bo.cell 1
          have k2 : w4.cell? ⟨ho, 2, none⟩ = some (.slice IA1 q ic1) := HI4.out.bo.cell 2
          go_upto_region 27 with
            (at_builtin
             go_must (refine wpList_append_one _ rfl (.tmp 110) (.tmp 116) _ rfl W0.heap.size 147 iI (.agg #[.int .i64 0, .int .i64 0, .slice none 0 0]) 3 40 Try.underlying50 hiI hzI0 hzI1 hzI2 rfl (by decide) (.slice IA1 q ic1) q (itCs l1) rfl (HI4.out.iown.alloc _) w4.heap.size 1 147 #[.int .i64 gn, .int .i64 0, .slice none 0 0] rfl (Bk.new _ _ _) rfl ?c1 (q + 1) rfl ?c2 ?c3 ?c4 ?_)
             case c1 => simp [Value.oneCell']
             case c2 => unfold maxLen; omega
             case c3 => omega
             case c4 => (simp; omega)
             intro gA cA wA hownA hgA hatA
             have hboA := (HI4.out.bo.alloc (.cells #[.int .i64 gn, .int .i64 0, .slice none 0 0] 147)).grown hgA (fun e => own_ne HI4.out.iown HI4.out.bo (by decide) e.symm)
             have kA2 : wA.cell? ⟨ho, 2, none⟩ = some (.slice IA1 q ic1) := hboA.cell 2
             have fA2 : wA.frozen? ⟨ho, 2, none⟩ = false := hboA.frozen 2)
          have hIT : ItY w4 0 (⟨gn, 0, none, 0, 0, []⟩ : It) := ⟨⟨RdY.nil_ _, rfl, Nat.le_refl _, by show (0 : Nat) ≤ _; omega, (fun z hz => by cases hz)⟩, wf_i64 (by show _ ≤ ((gn : Nat) : Int); omega) (by show ((gn : Nat) : Int) ≤ _; omega), (show (Lit.int .i64 0).wf = true by decide)⟩
          have hWI := HI4.out.item hIT (fun z hz => by cases hz) hownA hgA
          obtain ⟨w5, hw5⟩ : ∃ w5, w5 = wA.setCell ⟨ho, 2, none⟩ (.slice (some ⟨gA, 0, none⟩) (q + 1) cA) := ⟨_, rfl⟩
          have HQ5 : Hid (Fq [s] W0 w5) := Lib.hid (by rw [hw5]; exact ((HQ4.out.alloc _).grown hgA (fun g hg => .inr (HI4.out.iown.lt g hg).1)).set (.inr (by omega)) 2 _)
          rw [← hw5] at hWI ⊢
          have HI5 := Lib.hid hWI.1
          have hw5s : W0.heap.size ≤ w5.heap.size := HQ5.out.size
          clear hWI hIT hownA hgA hatA hboA kA2 fA2 k1 k2 hw5 HI4 HQ4
          have k1 : w5.cell? ⟨ho, 1, none⟩ = some (.slice gA' gn gc') := HI5.out.bo.cell 1
          go_upto_region 28 with
            (at_builtin
             go_must (refine wpList_append_one _ rfl (.tmp 120) (.tmp 121) _ rfl W0.heap.size 3 i3 (.int .i64 0) 1 8 Try.underlying30 hi3 hz30 hz31 hz32 rfl (by decide) (.slice gA' gn gc') gn (G1.map (Value.int .i64)) rfl (HI5.out.gown.alloc _) w5.heap.size 1 3 #[.int .i64 0] rfl (Bk.new _ _ _) rfl ?c1 (gn + 1) rfl ?c2 ?c3 ?c4 ?_)
             case c1 => simp [Value.oneCell']
             case c2 => unfold maxLen; omega
             case c3 => omega
             case c4 => (simp; omega)
             intro gB cB wB hownB hgB hatB
             have hboB := (HI5.out.bo.alloc (.cells #[.int .i64 0] 3)).grown hgB (fun e => own_ne HI5.out.gown HI5.out.bo (by decide) e.symm)
             have kB1 : wB.cell? ⟨ho, 1, none⟩ = some (.slice gA' gn gc') := hboB.cell 1
             have fB1 : wB.frozen? ⟨ho, 1, none⟩ = false := hboB.frozen 1)
          have hWG := HI5.out.gen hownB hgB (by rcases hatB with h | h; exact .inl h; exact .inr h)
          obtain ⟨w6, hw6⟩ : ∃ w6, w6 = wB.setCell ⟨ho, 1, none⟩ (.slice (some ⟨gB, 0, none⟩) (gn + 1) cB) := ⟨_, rfl⟩
          have HQ6 : Hid (Fq [s] W0 w6) := Lib.hid (by rw [hw6]; exact ((HQ5.out.alloc _).grown hgB (fun g hg => .inr (HI5.out.gown.lt g hg).1)).set (.inr (by omega)) 1 _)
          rw [← hw6] at hWG ⊢
          have HI6 := Lib.hid hWG.1
          have HVF : Hid (VW holdK (⟨ks.map Kd.p, G1 ++ [0], (l1 ++ [(⟨gn, 0, none, 0, 0, []⟩ : It)]).map It.p⟩ : Wv Kp2) ∧ Newer (⟨ks.map Kd.p, G, its.map It.p⟩ : Wv Kp2) ⟨ks.map Kd.p, G1 ++ [0], (l1 ++ [(⟨gn, 0, none, 0, 0, []⟩ : It)]).map It.p⟩) := Lib.hid (by
            have h := HI.out.2.more h256
            have h9 : (l1 ++ [(⟨gn, 0, none, 0, 0, []⟩ : It)]).map It.p = l1.map It.p ++ [(((G1.length : Int), 0), [])] := by
              rw [List.map_append, show G1.length = gn by have h7 := HLE.out; have h8 : G1.length = G.length := HI.out.2.len; omega]; rfl
            rw [h9]; exact h)
          clear hWG hownB hgB hatB hboB kB1 fB1 k1 hw6 HI5 HQ5
          obtain ⟨⟨b0, b1, b2⟩, ⟨n0, n1, n2⟩, m0, m1, m2⟩ := HI6.out.cell3
          have hgw : ∀ g ∈ (G1 ++ [0]), (Lit.int .i64 g).wf = true := fun g hg => by have h := HVF.out.1.gens g hg; exact wf_i64 (by omega) (by omega)
          go_wp2_with fail
          (try simp only [Exit.inBlock, Exit.then])
          refine bodyPost_ret (v := .agg #[.slice kA kn kc, .slice (some ⟨gB, 0, none⟩) (gn + 1) cB, .slice (some ⟨gA, 0, none⟩) (q + 1) cA]) ?_ rfl ⟨⟨kA, kn, kc, ks, (some ⟨gB, 0, none⟩), (gn + 1), cB, (G1 ++ [0]), (some ⟨gA, 0, none⟩), (q + 1), cA, (l1 ++ [(⟨gn, 0, none, 0, 0, []⟩ : It)])⟩, rfl, Lib.hid ⟨HI6.out.fin hgw, HVF.out.1, HVF.out.2, rfl, by show (G1 ++ [0]).length ≤ G.length + 1; have h : G1.length = G.length := HI.out.2.len; rw [List.length_append, h]; exact Nat.le_refl _⟩, below3 (HBW.out w6 HQ6.out) (by omega) _ _ _⟩
          rw [results_c1 rfl]
          go_simp
        · have t2 : (v == 0) = false := by simp [hv2]
          clear hv2
          have HVF := Lib.hid (HI.out.2.done HV.out)
          obtain ⟨⟨b0, b1, b2⟩, ⟨n0, n1, n2⟩, m0, m1, m2⟩ := HI4.out.cell3
          have hgw : ∀ g ∈ G1, (Lit.int .i64 g).wf = true := fun g hg => by have h := HVF.out.1.gens g hg; exact wf_i64 (by omega) (by omega)
          go_wp2_with fail
          (try simp only [Exit.inBlock, Exit.then])
          refine bodyPost_ret (v := .agg #[.slice kA kn kc, .slice gA' gn gc', .slice IA1 q ic1]) ?_ rfl ⟨⟨kA, kn, kc, ks, gA', gn, gc', G1, IA1, q, ic1, l1⟩, rfl, Lib.hid ⟨HI4.out.fin hgw, HVF.out.1, HVF.out.2, rfl, by show G1.length ≤ G.length + 1; have h : G1.length = G.length := HI.out.2.len; omega⟩, below3 (HBW.out w4 HQ4.out) (by omega) _ _ _⟩
          rw [results_c1 rfl]
          go_simp
end Go.Proofs.Ytnidcmhfbkdioaa
