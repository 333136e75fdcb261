/-
  The components of a drawn template. Conditions: a stream of numbers; valid kinds that can be read.
-/
import Derived.Deep.RegionHeld3
import Derived.Test.YtnidcmhfbkdioaaPn
import Derived.Test.YtnidcmhfbkdioaaMt
import Derived.Test.YtnidcmhfbkdioaaMu
namespace Go.Proofs.Ytnidcmhfbkdioaa
open Go.RowKit
set_option maxRecDepth 100000

noncomputable def pfComps : Code := (Try.f23.body.bind (findB 7)).getD .skip

set_option maxHeartbeats 8000000 in
theorem pfComps_any {x1 x2 x3 x4 x6 x7 x9 x10 x11 x12 x13 x14 x15 x16 x17 x18 x19 x20 x21 x22 x23 x24 x25 x26 x27 x28 x29 x30 x31 x32 x33 x34 x35 x36 x37 x38 x39 x40 x41 x42 x43 x44 x45 x46 x47 x48 x49 x50 x51 x52 x53 x54 x55 x56 x57 x58 x59 x60 x61 x62 x63 x64 x65 x66 x67 x68 x69 x70 x71 x72 x73 x74 x75 x76 x77 x78 x79 x80 x81 x82 x83 x84 x85 x86 x87 x88 x89 x90 x91 x92 x93 x94 x95 x96 x97 x98 x99 x100 x101 x102 x103 x104 x105 x106 x107 x108 x109 x110 x111 x112 x113 x114 x115 x116 x117 x118 x119 x120 x121 x122 x123 x124 x125 x126 x127 x128 x129 x130 x131 x132 x133 x134 x135 : Value} {Q : Exit → Act → World → Prop} {w0 wi : World} {s B hp n c : Nat} {A : Option Addr} {ks : List Kd} (hst : StrSt wi B s) (hB : B ≤ s) (hs0 : s < w0.heap.size) (hk : KsY wi 0 A n c ks) (hone : ∀ k ∈ ks, oneF k.nm k.fds = 0) (hn : n ≤ 16) (hq : Fq [s] w0 wi) (hhp : w0.heap.size ≤ hp) (hbk : Bk wi hp 43 #[.slice none 0 0, .slice none 0 0])
    (hN : ∀ (y9 y10 y11 y13 y27 y28 y29 y30 y31 y32 y33 y34 y35 y36 y37 y38 y39 y40 y41 y42 y43 y44 y45 y46 y47 y48 y49 y50 y51 y52 y53 y54 y55 y56 y57 y58 y59 y60 y61 y62 y63 y64 y65 y66 : Value) (CA : Option Addr) (q oc : Nat) (l : List Cm) (w' : World), Hid (q ≤ n ∧ Bk w' hp 43 #[.slice CA q oc, .slice none 0 0] ∧ (w'.ownsRow w0.heap.size 166 2 (.slice CA q oc) q (cmCs l) ∧ q = l.length ∧ (∀ z ∈ l, CmY w' 0 z) ∧ VCs holdK (ks.map Kd.p) (l.map Cm.p)) ∧ StrSt w' B s ∧ Fq [s] w0 w' ∧ Kx 0 [189, 43, 166] wi w') → Q .normal ⟨#[.slice A n c, x1, x2, x3, x4, .pointer (some ⟨s, 0, none⟩), x6, x7, .pointer (some ⟨hp, 0, none⟩), y9, y10, y11, x12, y13, x14, x15, x16, x17, x18, x19, x20, x21, x22, x23, x24, x25, x26, y27, y28, y29, y30, y31, y32, y33, y34, y35, y36, y37, y38, y39, y40, y41, y42, y43, y44, y45, y46, y47, y48, y49, y50, y51, y52, y53, y54, y55, y56, y57, y58, y59, y60, y61, y62, y63, y64, y65, y66, x67, x68, x69, x70, x71, x72, x73, x74, x75, x76, x77, x78, x79, x80, x81, x82, x83, x84, x85, x86, x87, x88, x89, x90, x91, x92, x93, x94, x95, x96, x97, x98, x99, x100, x101, x102, x103, x104, x105, x106, x107, x108, x109, x110, x111, x112, x113, x114, x115, x116, x117, x118, x119, x120, x121, x122, x123, x124, x125, x126, x127, x128, x129, x130, x131, x132, x133, x134, x135], []⟩ w') :
    Code.wp Try.prog pfComps Q ⟨#[.slice A n c, x1, x2, x3, x4, .pointer (some ⟨s, 0, none⟩), x6, x7, .pointer (some ⟨hp, 0, none⟩), x9, x10, x11, x12, x13, x14, x15, x16, x17, x18, x19, x20, x21, x22, x23, x24, x25, x26, x27, x28, x29, x30, x31, x32, x33, x34, x35, x36, x37, x38, x39, x40, x41, x42, x43, x44, x45, x46, x47, x48, x49, x50, x51, x52, x53, x54, x55, x56, x57, x58, x59, x60, x61, x62, x63, x64, x65, x66, x67, x68, x69, x70, x71, x72, x73, x74, x75, x76, x77, x78, x79, x80, x81, x82, x83, x84, x85, x86, x87, x88, x89, x90, x91, x92, x93, x94, x95, x96, x97, x98, x99, x100, x101, x102, x103, x104, x105, x106, x107, x108, x109, x110, x111, x112, x113, x114, x115, x116, x117, x118, x119, x120, x121, x122, x123, x124, x125, x126, x127, x128, x129, x130, x131, x132, x133, x134, x135], []⟩ wi := by
  conv => arg 2; whnf
  have HST := Lib.hid hst
  have HNX := Lib.hid next_any
  have HK := Lib.hid hk
  have HON := Lib.hid hone
  have HQ0 := Lib.hid hq
  have HBK := Lib.hid hbk
  have hcap := hk.cap
  have hcap2 := hk.cap2
  have hw0i : w0.heap.size ≤ wi.heap.size := hq.size
  have hpi : hp < wi.heap.size := hbk.lt
  obtain ⟨i1, hi1, hz10, hz11, hz12⟩ := info_parts T.infoCm
  obtain ⟨i3, hi3, hz30, hz31, hz32⟩ := info_parts T.info3
  clear hst hk hone hq hbk
  go_wp2_with fail
  go_loopw [29] (fun iv wr => ∃ (i q oc : Nat) (OA : Option Addr) (l1 : List Cm), i ≤ n ∧ q ≤ i ∧ iv = .int .i64 i ∧ Hid (Bk wr hp 43 #[.slice OA q oc, .slice none 0 0]) ∧ Hid (wr.ownsRow w0.heap.size 166 2 (.slice OA q oc) q (cmCs l1) ∧ q = l1.length ∧ (∀ z ∈ l1, CmY wr 0 z) ∧ CwI holdK (ks.map Kd.p) i (l1.map Cm.p)) ∧ Hid (StrSt wr B s) ∧ Hid (Fq [s] w0 wr) ∧ Hid (Kx 0 [189, 43, 166] wi wr) ∧ wi.heap.size ≤ wr.heap.size) (fun iv _ => n - (intOf iv).toNat)
  case atStart => exact ⟨0, 0, 0, none, [], Nat.zero_le _, Nat.le_refl _, rfl, HBK, Lib.hid ⟨World.ownsRow_nil _ _ _ _, rfl, (fun z hz => by cases hz), CwI.zero⟩, HST, HQ0, Lib.hid Kx.refl, Nat.le_refl _⟩
  case round =>
    clear HQ0 HBK
    obtain ⟨i, q, oc, OA, l1, hi, hqi, rfl, HPB, HL, HS, HQ, HX0, hiz9⟩ := hrel
    obtain ⟨wo, rfl⟩ : ∃ x, x = wr := ⟨_, rfl⟩
    by_cases hlt : i < n
    · have hiz : (i : Int) < n := by omega
      obtain ⟨k, hk⟩ : ∃ k, ks[i]? = some k := ⟨_, List.getElem?_eq_getElem (by have := HK.out.len; omega)⟩
      have hky := HK.out.keep HX0.out (by decide) (by decide)
      have hko := hky.ok k (List.mem_of_getElem? hk)
      obtain ⟨b, o, rfl, hbb, q0, q1⟩ := hky.rd.rd.kd hlt hk
      have hwsz : w0.heap.size ≤ wo.heap.size := HQ.out.size
      obtain ⟨w1, hw1⟩ : ∃ w1, w1 = wo.alloc (.cells #[.string k.nm, .slice k.A k.n k.c] 63) := ⟨_, rfl⟩
      have HK1 : Hid (Bk w1 wo.heap.size 63 #[.string k.nm, .slice k.A k.n k.c]) := Lib.hid (by rw [hw1]; exact Bk.new _ _ _)
      have HB1 : Hid (Below wo.heap.size wo w1) := Lib.hid (by rw [hw1]; exact (Below.refl _ _).alloc (Nat.le_refl _) _)
      have HS1 : Hid (StrSt w1 B s) := Lib.hid (HS.out.below HB1.out (HS.out.lo hB))
      have HKO := Lib.hid hko
      have HKK := Lib.hid hk
      have hkcap := hko.cap
      have hkcap2 := hko.cap2
      clear hk hky hko
      generalize hknm : k.nm = knm at *
      generalize hkA : k.A = kA at *
      generalize hkn : k.n = kn at *
      generalize hkc : k.c = kc at *
      have HKV := Lib.hid (And.intro hknm (And.intro hkA (And.intro hkn hkc)))
      clear hknm hkA hkn hkc
      go_wp2_with fail
      rw [← hw1]
      clear hw1 q0 q1
      (with_reducible refine (HNX.out s B 3 _ HS1.out hB (by omega) (by omega)).mono ?_)
      rintro e w2 ⟨v, rfl, hv0, hv1, hst2, hg2⟩
      have hxs : wo.heap.size ≠ s := by omega
      have hk2 : Bk w2 wo.heap.size 63 #[.string knm, .slice kA kn kc] := HK1.out.grown hg2 (fun e => by injection e with e; omega)
      have HQ2 : Hid (Fq [s] wo w2) := Lib.hid ((Fq.of_below HB1.out).grown hg2 fun g hg => .inl (by injection hg with hg; simp [hg]))
      have HS2 := Lib.hid hst2
      have HK2 := Lib.hid hk2
      clear hst2 hg2 hk2 HK1 HS1 HB1
      by_cases hv2 : v = 2
      · have t2 : (v == 2) = true := by simp [hv2]
        have hkx := Kx.fq (B' := 0) HQ2.out HS.out (Nat.zero_le _)
        have HPN : Hid (Bk w2 hp 43 #[.slice OA q oc, .slice none 0 0]) := Lib.hid (hkx.bk HPB.out (by decide))
        have HXN : Hid (Kx 0 [189, 43, 166] wi w2) := Lib.hid (HX0.out.trans (hkx.mono (Nat.zero_le _) (by decide)))
        have hwi2 : wi.heap.size ≤ w2.heap.size := by have := HQ2.out.size; omega
        have HLN : Hid (w2.ownsRow w0.heap.size 166 2 (.slice OA q oc) q (cmCs l1) ∧ q = l1.length ∧ (∀ z ∈ l1, CmY w2 0 z) ∧ CwI holdK (ks.map Kd.p) (i + 1) (l1.map Cm.p) ) := Lib.hid ⟨hkx.own HL.out.1 (by decide), HL.out.2.1, fun z hz => (HL.out.2.2.1 z hz).keep hkx (by decide), HL.out.2.2.2.skip⟩
        have HQN : Hid (Fq [s] w0 w2) := Lib.hid (HQ.out.trans HQ2.out (SubF.refl _ _))
        clear hkx hv2
        go_wp2_with fail
        go_roundw
        case rel => exact ⟨i + 1, q, oc, OA, l1, by omega, by omega, by go_num, HPN, HLN, HS2, HQN, HXN, hwi2⟩
        case measure => simp [intOf]; omega
      · have t2 : (v == 2) = false := by simp [hv2]
        clear hv2
        have c1 : w2.cell? ⟨wo.heap.size, 1, none⟩ = some (.slice kA kn kc) := HK2.out.cell 1
        have c2 : (w2.alloc (.cells #[.int .i64 (i : Int), .slice none 0 0] 166)).cell? ⟨wo.heap.size, 1, none⟩ = some (.slice kA kn kc) := (HK2.out.alloc _).cell 1
        obtain ⟨w3, hw3⟩ : ∃ w3, w3 = w2.alloc (.cells #[.int .i64 (i : Int), .slice none 0 0] 166) := ⟨_, rfl⟩
        have HB3 : Hid (Below w2.heap.size w2 w3) := Lib.hid (by rw [hw3]; exact (Below.refl _ _).alloc (Nat.le_refl _) _)
        have HC3 : Hid (Bk w3 w2.heap.size 166 #[.int .i64 (i : Int), .slice none 0 0]) := Lib.hid (by rw [hw3]; exact Bk.new _ _ _)
        have HS3 : Hid (StrSt w3 B s) := Lib.hid (HS2.out.below HB3.out (HS2.out.lo hB))
        have HQ3 : Hid (Fq [s] wo w3) := Lib.hid (HQ2.out.trans (Fq.of_below HB3.out) (SubF.refl _ _))
        have hw2s : wo.heap.size < w2.heap.size := HK2.out.lt
        have hkn8 : kn ≤ 8 := by
          have h1 := HON.out k (List.mem_of_getElem? HKK.out)
          have h2 := oneF_len h1
          have h3 := HKO.out.len
          rw [HKV.out.2.2.1] at h3
          omega
        go_wp2_with fail
        rw [← hw3]
        clear hw3 c1 c2
        obtain ⟨hc, hhc⟩ : ∃ hc, hc = w2.heap.size := ⟨_, rfl⟩
        rw [← hhc] at HC3 hw2s ⊢
        have HHC := Lib.hid hhc
        clear hhc
        go_loopw [42] (fun jv wx => ∃ (j vc : Nat) (VA : Option Addr) (vs : List Int), j ≤ kn ∧ jv = .int .i64 j ∧ Hid (Bk wx hc 166 #[.int .i64 (i : Int), .slice VA j vc] ∧ wx.ownsRow w2.heap.size 3 1 (.slice VA j vc) j (vs.map (Value.int .i64)) ∧ vs.length = j ∧ ∀ t f, t < j → k.fds[t]? = some f → f.low ≤ vs.getD t 0 ∧ vs.getD t 0 < f.low + 2 ^ f.bits.toNat) ∧ Hid (StrSt wx B s) ∧ Hid (Fq [s] wo wx)) (fun jv _ => kn - (intOf jv).toNat)
        case atStart => exact ⟨0, 0, none, [], Nat.zero_le _, rfl, Lib.hid ⟨HC3.out, World.ownsRow_nil _ _ _ _, rfl, (fun t f ht => by omega)⟩, HS3, HQ3⟩
        case round =>
          clear HC3 HS3 HQ3
          obtain ⟨j, vc, VA, vs, hj, rfl, HV, HSx, HQx⟩ := hrel
          by_cases hjl : j < kn
          · have hjz : (j : Int) < kn := by omega
            have hkf := Kx.fq (B' := 0) HQx.out HS.out (Nat.zero_le _)
            have hrd := (HKO.out.rd.keep hkf (by decide)).rd
            rw [HKV.out.2.1, HKV.out.2.2.1] at hrd
            obtain ⟨f, hf⟩ : ∃ f, k.fds[j]? = some f := ⟨_, List.getElem?_eq_getElem (by have := HKO.out.len; rw [HKV.out.2.2.1] at this; omega)⟩
            obtain ⟨fb, fo, rfl, hfb, e0, e1, e2⟩ := hrd.fd hjl hf
            have hfok := field_ok (one_ok (HON.out k (List.mem_of_getElem? HKK.out)) (List.mem_of_getElem? hf))
            have HF := Lib.hid hf
            clear hf hkf hrd
            generalize hfnm : f.nm = fnm at *
            obtain ⟨bt, hbt⟩ : ∃ bt : Nat, f.bits = bt := ⟨f.bits.toNat, by omega⟩
            generalize hlo : f.low = lo at *
            rw [hbt] at e1 hfok
            have p1 := pow2_one bt
            have p2 := pow2_32 bt (by omega)
            obtain ⟨M, hM⟩ : ∃ M, M = (2 : Int) ^ bt := ⟨_, rfl⟩
            rw [← hM] at p1 p2
            have hsh : wrap64 ((2 : Int) ^ bt) = M := by rw [← hM]; exact wrap_small (Int.le_trans (by decide) p1) (Int.le_trans p2 (by decide))
            have hsh2 : IntKind.i64.wrap ((2 : Int) ^ bt) = M := by rw [← hM]; exact wrap_small2 (Int.le_trans (by decide) p1) (Int.le_trans p2 (by decide))
            have HM := Lib.hid hM
            clear hM
            have HP := Lib.hid (And.intro p1 p2)
            have HFV := Lib.hid (And.intro hbt hlo)
            have hb32 : bt ≤ 32 := by omega
            have hb0 : (0 : Int) ≤ bt := by omega
            have hlo1 : -4294967296 ≤ lo := hfok.2.2.1
            have hlo2 : lo ≤ 4294967296 := hfok.2.2.2
            clear hfok p1 p2 hbt hlo hfnm
            obtain ⟨w5, hw5⟩ : ∃ w5, w5 = wr.alloc (.cells #[.string fnm, .int .i64 bt, .int .i64 lo] 66) := ⟨_, rfl⟩
            have HB5 : Hid (Below wr.heap.size wr w5) := Lib.hid (by rw [hw5]; exact (Below.refl _ _).alloc (Nat.le_refl _) _)
            have hh5 : Bk w5 wr.heap.size 66 #[.string fnm, .int .i64 bt, .int .i64 lo] := by rw [hw5]; exact Bk.new _ _ _
            have hcw : hc < wr.heap.size := HV.out.1.lt
            have hs5 : StrSt w5 B s := HSx.out.below HB5.out (HSx.out.lo hB)
            have hv5 : Bk w5 hc 166 #[.int .i64 (i : Int), .slice VA j vc] := HV.out.1.below HB5.out hcw
            have how5 : w5.ownsRow w2.heap.size 3 1 (.slice VA j vc) j (vs.map (Value.int .i64)) := (Kx.of_below (B := 0) (F := []) HB5.out).own HV.out.2.1 (by simp)
            go_wp2_with fail
            rw [← hw5]
            clear hw5 e0 e1 e2
            have hws : w0.heap.size ≤ wo.heap.size := HQ.out.size
            have hfs : wr.heap.size ≠ s := by have := HQx.out.size; omega
            have hcs : hc ≠ s := by omega
            have hw5s : w0.heap.size ≤ w5.heap.size := by have := HB5.out.size; have := HQx.out.size; omega
            have d1 : w5.cell? ⟨wr.heap.size, 1, none⟩ = some (.int .i64 bt) := hh5.cell 1
            have d2 : w5.cell? ⟨wr.heap.size, 2, none⟩ = some (.int .i64 lo) := hh5.cell 2
            have d3 : w5.cell? ⟨hc, 1, none⟩ = some (.slice VA j vc) := hv5.cell 1
            have HH5 := Lib.hid hh5
            have HV5 := Lib.hid hv5
            have HO5 := Lib.hid how5
            have HS5 := Lib.hid hs5
            have hw2w5 : w2.heap.size ≤ w5.heap.size := by have := HO5.out; have := HB5.out.size; have := HQx.out.size; have := HHC.out; omega
            clear hh5 hv5 how5 hs5
            refine wp_region_noPanic ?_
            go_region_law
              (first
                | (go_simp
                   go_at_call 98
                   (with_reducible refine (HNX.out s B M _ (HS5.out.below (w' := w5.drew) (Below.refl _ _).drew (HS5.out.lo hB)) hB HP.out.1 ?hM).mono ?_)
                   case hM => (have h := HP.out.2; omega)
                   rintro e w6 ⟨v6, rfl, hv60, hv61, hst6, hg6⟩
                   have hh6 := HH5.out.drew.grown hg6 (fun e => by injection e with e; omega)
                   have hv6 := HV5.out.drew.grown hg6 (fun e => by injection e with e; omega)
                   have hwv : IntKind.i64.wrap (lo + v6) = lo + v6 := by (have h := HP.out.2; exact wrap_small2 (by omega) (by omega))
                   have g1 : w6.cell? ⟨wr.heap.size, 1, none⟩ = some (.int .i64 bt) := hh6.cell 1
                   have g2 : w6.cell? ⟨wr.heap.size, 2, none⟩ = some (.int .i64 lo) := hh6.cell 2
                   have g3 : w6.cell? ⟨hc, 1, none⟩ = some (.slice VA j vc) := hv6.cell 1
                   have g4 : (w6.alloc (.cells #[.int .i64 (lo + v6)] 3)).cell? ⟨hc, 1, none⟩ = some (.slice VA j vc) := (hv6.alloc _).cell 1
                   have how6 : w6.ownsRow w2.heap.size 3 1 (.slice VA j vc) j (vs.map (Value.int .i64)) := own_keepB HO5.out fun g hg => hg6.block g (HO5.out.lt g hg).2 (fun e => by injection e with e; have := (HO5.out.lt g hg).1; have := HHC.out; omega))
                | (refine step_append_one rfl (.tmp 47) (.tmp 56) 30 rfl w2.heap.size 3 i3 (.int .i64 0) 1 8 Try.underlying30 hi3 hz30 hz31 hz32 rfl (by decide) (.slice VA j vc) j (vs.map (Value.int .i64)) rfl (World.ownsRow.alloc (w := w6) how6 _) w6.heap.size 1 3 #[.int .i64 (lo + v6)] rfl (Bk.new w6 _ _) rfl ?c1 (j + 1) rfl ?c2 ?c3 ?c4 ?_
                   case c1 => simp [Value.oneCell']
                   case c2 => unfold maxLen; omega
                   case c3 => omega
                   case c4 => (have := hg6.size; simp at this; simp; omega)
                   intro g7 c7 w7 hown7 hg7 hat7
                   have hv7 := (hv6.alloc (.cells #[.int .i64 (lo + v6)] 3)).grown hg7 (fun e => own_ne how6 hv6 (by decide) e.symm)
                   have e3 : w7.cell? ⟨hc, 1, none⟩ = some (.slice VA j vc) := hv7.cell 1
                   have f3 : w7.frozen? ⟨hc, 1, none⟩ = false := hv7.frozen 1))
            all_goals
              refine NoPanic.normal ?_
              have hkx : Kx B [3, 166] w6 (w7.setCell ⟨hc, 1, none⟩ (.slice (some ⟨g7, 0, none⟩) (j + 1) c7)) := (((Kx.refl (B := B)).alloc _).grown (World.ownsRow.alloc (w := w6) how6 _) hg7 (by have := HHC.out; omega) (by simp)).set hv7 (by have := HHC.out; omega) (by simp) 1 _
              have HVN : Hid (Bk (w7.setCell ⟨hc, 1, none⟩ (.slice (some ⟨g7, 0, none⟩) (j + 1) c7)) hc 166 #[.int .i64 (i : Int), .slice (some ⟨g7, 0, none⟩) (j + 1) c7] ∧ (w7.setCell ⟨hc, 1, none⟩ (.slice (some ⟨g7, 0, none⟩) (j + 1) c7)).ownsRow w2.heap.size 3 1 (.slice (some ⟨g7, 0, none⟩) (j + 1) c7) (j + 1) ((vs ++ [lo + v6]).map (Value.int .i64)) ∧ (vs ++ [lo + v6]).length = j + 1 ∧ ∀ t f, t < j + 1 → k.fds[t]? = some f → f.low ≤ (vs ++ [lo + v6]).getD t 0 ∧ (vs ++ [lo + v6]).getD t 0 < f.low + 2 ^ f.bits.toNat) := Lib.hid
                ⟨by simpa using hv7.set_ 1 (.slice (some ⟨g7, 0, none⟩) (j + 1) c7), by rw [List.map_append]; exact own_far hown7 hv7 (by decide) 1 _, by rw [List.length_append, HV.out.2.2.1]; rfl, mk_range HV.out.2.2.1 HV.out.2.2.2 HF.out HFV.out.1 HFV.out.2 HM.out hv60 hv61⟩
              have HSN : Hid (StrSt (w7.setCell ⟨hc, 1, none⟩ (.slice (some ⟨g7, 0, none⟩) (j + 1) c7)) B s) := Lib.hid (hst6.kx hkx (Nat.le_refl _) (hst6.lo hB) (by decide))
              have HQN : Hid (Fq [s] wo (w7.setCell ⟨hc, 1, none⟩ (.slice (some ⟨g7, 0, none⟩) (j + 1) c7))) := Lib.hid ((((((HQx.out.trans (Fq.of_below HB5.out) (SubF.refl _ _)).drew).grown hg6 (fun g hg => .inl (by injection hg with hg; simp [hg]))).alloc _).grown hg7 (fun g hg => .inr (by have := (how6.lt g hg).1; have := HHC.out; omega))).set (.inr (by have := HHC.out; omega)) 1 _)
              clear hkx hown7 hg7 hat7 hv7 e3 f3 how6 g1 g2 g3 g4 hh6 hv6 hst6 hg6 hwv d1 d2 d3
              go_wp2_with fail
              go_roundw
              case rel => exact ⟨j + 1, c7, some ⟨g7, 0, none⟩, vs ++ [lo + v6], by omega, by go_num, HVN, HSN, HQN⟩
              case measure => simp [intOf]; omega
          · obtain rfl : kn = j := by omega
            have e0 : wr.cell? ⟨hc, 0, none⟩ = some (.int .i64 (i : Int)) := HV.out.1.cell 0
            have e1 : wr.cell? ⟨hc, 1, none⟩ = some (.slice VA kn vc) := HV.out.1.cell 1
            have hkx := Kx.fq (B' := 0) HQx.out HS.out (Nat.zero_le _)
            have HOW := Lib.hid (hkx.own HL.out.1 (by decide))
            have HZ : Hid (∀ z ∈ l1, CmY wr 0 z) := Lib.hid fun z hz => (HL.out.2.2.1 z hz).keep hkx (by decide)
            have HPW := Lib.hid (hkx.bk HPB.out (by decide))
            have HXW : Hid (Kx 0 [189, 43, 166] wi wr) := Lib.hid (HX0.out.trans (hkx.mono (Nat.zero_le _) (by decide)))
            have p0 : wr.cell? ⟨hp, 0, none⟩ = some (.slice OA q oc) := HPW.out.cell 0
            have hwsz2 : w0.heap.size ≤ wr.heap.size := by have := HQx.out.size; omega
            have hwizz : wi.heap.size ≤ wr.heap.size := by have := HQx.out.size; omega
            clear hkx
            go_wp2_with
              (at_builtin
               go_must (refine wpList_append_one _ rfl (.tmp 61) (.tmp 63) _ rfl w0.heap.size 166 i1 (.agg #[.int .i64 0, .slice none 0 0]) 2 32 Try.underlying38 hi1 hz10 hz11 hz12 rfl (by decide) (.slice OA q oc) q (cmCs l1) rfl (HOW.out.alloc _) wr.heap.size 1 166 #[.int .i64 (i : Int), .slice VA kn vc] rfl (Bk.new _ _ _) rfl ?c1 (q + 1) rfl ?c2 ?c3 ?c4 ?_)
               case c1 => simp [Value.oneCell']
               case c2 => unfold maxLen; omega
               case c3 => omega
               case c4 => (simp; omega)
               intro g8 c8 w8 hown8 hg8 hat8
               have hp8 := (HPW.out.alloc (.cells #[.int .i64 (i : Int), .slice VA kn vc] 166)).grown hg8 (fun e => own_ne HOW.out HPW.out (by decide) e.symm)
               have p8 : w8.cell? ⟨hp, 0, none⟩ = some (.slice OA q oc) := hp8.cell 0
               have f8 : w8.frozen? ⟨hp, 0, none⟩ = false := hp8.frozen 0)
            have hkx8 : Kx 0 [166] wr w8 := ((Kx.refl (B := 0)).alloc _).grown (HOW.out.alloc _) hg8 (Nat.zero_le _) (by simp)
            have hset : Kx 0 [43] w8 (w8.setCell ⟨hp, 0, none⟩ (.slice (some ⟨g8, 0, none⟩) (q + 1) c8)) := Kx.set (B := 0) (F := [43]) Kx.refl hp8 (Nat.zero_le _) (by simp) 0 _
            have hkxB : Kx B [166, 43] wr (w8.setCell ⟨hp, 0, none⟩ (.slice (some ⟨g8, 0, none⟩) (q + 1) c8)) := (((Kx.refl (B := B)).alloc _).grown (F := [166, 43]) (HOW.out.alloc _) hg8 (by omega) (by simp)).set hp8 (by omega) (by simp) 0 _
            have hcp := own_cap2 HV.out.2.1
            have hkl : kn = vs.length := HV.out.2.2.1.symm
            have hks2 := hset.size
            have hks8 := hkx8.size
            have HPN : Hid (Bk (w8.setCell ⟨hp, 0, none⟩ (.slice (some ⟨g8, 0, none⟩) (q + 1) c8)) hp 43 #[.slice (some ⟨g8, 0, none⟩) (q + 1) c8, .slice none 0 0]) := Lib.hid (by simpa using hp8.set_ 0 (.slice (some ⟨g8, 0, none⟩) (q + 1) c8))
            have HLN : Hid ((w8.setCell ⟨hp, 0, none⟩ (.slice (some ⟨g8, 0, none⟩) (q + 1) c8)).ownsRow w0.heap.size 166 2 (.slice (some ⟨g8, 0, none⟩) (q + 1) c8) (q + 1) (cmCs (l1 ++ [(⟨i, VA, kn, vc, vs⟩ : Cm)])) ∧ q + 1 = (l1 ++ [(⟨i, VA, kn, vc, vs⟩ : Cm)]).length ∧ (∀ z ∈ l1 ++ [(⟨i, VA, kn, vc, vs⟩ : Cm)], CmY (w8.setCell ⟨hp, 0, none⟩ (.slice (some ⟨g8, 0, none⟩) (q + 1) c8)) 0 z) ∧ CwI holdK (ks.map Kd.p) (i + 1) ((l1 ++ [(⟨i, VA, kn, vc, vs⟩ : Cm)]).map Cm.p)) := Lib.hid ⟨by
                rw [show cmCs (l1 ++ [(⟨i, VA, kn, vc, vs⟩ : Cm)]) = cmCs l1 ++ (#[Value.int .i64 (i : Int), .slice VA kn vc] : Array Value).toList by simp [cmCs, Cm.cs]]
                exact hset.own hown8 (by decide), by simp [HL.out.2.1], fun z hz => by
                rcases List.mem_append.1 hz with hz | hz
                · exact ((HZ.out z hz).keep hkx8 (by decide)).keep hset (by decide)
                · rw [show z = ⟨i, VA, kn, vc, vs⟩ by simpa using hz]
                  exact ⟨((RdY.of_own HV.out.2.1).keep hkx8 (by decide)).keep hset (by decide), hkl, hcp.1, hcp.2, wf_i64 (by show _ ≤ ((i : Nat) : Int); omega) (by show ((i : Nat) : Int) ≤ _; omega)⟩, by
                rw [List.map_append]
                refine HL.out.2.2.2.keep (d := k.p) (by rw [List.getElem?_map, HKK.out]; rfl) ?_
                have hlen : vs.length = k.fds.length := by have := HKO.out.len; rw [HKV.out.2.2.1] at this; rw [← hkl]; exact this
                exact hold_of (HON.out k (List.mem_of_getElem? HKK.out)) hlen fun t f hf => HV.out.2.2.2 t f (by have := (List.getElem?_eq_some_iff.1 hf).1; have h9 : (k.p).2 = k.fds := rfl; rw [h9] at this; omega) hf⟩
            have HSN : Hid (StrSt (w8.setCell ⟨hp, 0, none⟩ (.slice (some ⟨g8, 0, none⟩) (q + 1) c8)) B s) := Lib.hid (HSx.out.kx hkxB (Nat.le_refl _) (HSx.out.lo hB) (by decide))
            have HQN : Hid (Fq [s] w0 (w8.setCell ⟨hp, 0, none⟩ (.slice (some ⟨g8, 0, none⟩) (q + 1) c8))) := Lib.hid ((((HQ.out.trans HQx.out (SubF.refl _ _)).alloc _).grown hg8 (fun g hg => .inr (HOW.out.lt g hg).1)).set (.inr hhp) 0 _)
            have HXN : Hid (Kx 0 [189, 43, 166] wi (w8.setCell ⟨hp, 0, none⟩ (.slice (some ⟨g8, 0, none⟩) (q + 1) c8))) := Lib.hid (HXW.out.trans (hkxB.mono (Nat.zero_le _) (by decide)))
            have hwi9 : wi.heap.size ≤ (w8.setCell ⟨hp, 0, none⟩ (.slice (some ⟨g8, 0, none⟩) (q + 1) c8)).heap.size := by omega
            clear hkx8 hset hkxB hown8 hg8 hat8 e0 e1 p0 hp8 p8 f8
            go_wp2_with fail
            go_roundw
            case rel => exact ⟨i + 1, q + 1, c8, some ⟨g8, 0, none⟩, l1 ++ [(⟨i, VA, kn, vc, vs⟩ : Cm)], by omega, by omega, by go_num, HPN, HLN, HSN, HQN, HXN, hwi9⟩
            case measure => simp [intOf]; omega
    · obtain rfl : n = i := by omega
      have hql := HL.out.2.1
      have HP : Hid (q ≤ n ∧ Bk wo hp 43 #[.slice OA q oc, .slice none 0 0] ∧ (wo.ownsRow w0.heap.size 166 2 (.slice OA q oc) q (cmCs l1) ∧ q = l1.length ∧ (∀ z ∈ l1, CmY wo 0 z) ∧ VCs holdK (ks.map Kd.p) (l1.map Cm.p)) ∧ StrSt wo B s ∧ Fq [s] w0 wo ∧ Kx 0 [189, 43, 166] wi wo) := Lib.hid ⟨hqi, HPB.out, ⟨HL.out.1, hql, HL.out.2.2.1, HL.out.2.2.2.done⟩, HS.out, HQ.out, HX0.out⟩
      go_wp2_with fail
      exact hN _ _ _ _ _ _ _ _ _ _ _ _ _ _ _ _ _ _ _ _ _ _ _ _ _ _ _ _ _ _ _ _ _ _ _ _ _ _ _ _ _ _ _ _ _ _ _ l1 _ HP
end Go.Proofs.Ytnidcmhfbkdioaa
