/-
  prefab.Diff where what is wanted has the template form; slices.EqualFunc whatever the closure compares. Conditions: what is read can be read; no more than 40 differences.
-/
import Derived.Test.YtnidcmhfbkdioaaRa
import Derived.Test.YtnidcmhfbkdioaaPn
namespace Go.Proofs.Ytnidcmhfbkdioaa
open Go.RowKit
set_option maxRecDepth 100000

/-! ### Qd -/
/-- The piece of code from region n on. -/
def findR (n : Nat) : Code → Option Code
  | .seq (.region i o d) x => if i = n then some (.seq (.region i o d) x) else findR n x
  | .seq a b => match findR n a with
    | some c => some c
    | none => findR n b
  | .block _ c => findR n c
  | .loop c => findR n c
  | .scope c => findR n c
  | .cond _ a b => match findR n a with
    | some c => some c
    | none => findR n b
  | _ => none
noncomputable def dfVals : Code := (Try.f62.body.bind (findR 20)).getD .skip
theorem wf_i64Q {n : Int} (h1 : -9223372036854775808 ≤ n) (h2 : n ≤ 9223372036854775807) : (Lit.int .i64 n).wf = true := by
  simp [Lit.wf, IntKind.min, IntKind.max, IntKind.signed, IntKind.bits]
  omega
theorem T.info158Q : (Try.prog.info? 158).map (fun i => (i.zero, i.size, i.bytes)) = some (some (.agg #[.slice none 0 0, .int .i64 0, .int .i64 0, .int .i64 0]), 4, 48) := by kernel_rfl
/-- A row of replacements that grows. -/
structure OvI (w : World) (base : Nat) (A : Option Addr) (m c : Nat) (l : List Ov) : Prop where
  own : w.ownsRow base 158 4 (.slice A m c) m (ovCs l)
  len : m = l.length
  ok : ∀ x ∈ l, OvY w 0 x
theorem OvI.keep {w w' : World} {base m c : Nat} {A : Option Addr} {l : List Ov} {F : List TypeId} (h : OvI w base A m c l) (hq : Kx 0 F w w') (h3 : (3 : TypeId) ∉ F) (h158 : (158 : TypeId) ∉ F) : OvI w' base A m c l :=
  ⟨hq.own h.own h158, h.len, fun x hx => (h.ok x hx).keep hq h3⟩
theorem OvI.y {w : World} {base m c : Nat} {A : Option Addr} {l : List Ov} (h : OvI w base A m c l) : OvsY w 0 A m c l :=
  ⟨RdY.of_own h.own, h.len, (own_cap2 h.own).1, (own_cap2 h.own).2, h.ok⟩
theorem valsD_drop {path : List Int} {K : Int} {a b : Int} : ∀ {l r : List Int} {k : Nat}, l[k]? = some a → r[k]? = some b → ∀ f, valsD path K f (l.drop k) (r.drop k) = (if b ≠ a then [(path, K, (f : Int), b)] else []) ++ valsD path K (f + 1) (l.drop (k + 1)) (r.drop (k + 1)) := by
  intro l r k h1 h2 f
  obtain ⟨p1, e1⟩ := List.getElem?_eq_some_iff.1 h1
  obtain ⟨p2, e2⟩ := List.getElem?_eq_some_iff.1 h2
  rw [List.drop_eq_getElem_cons p1, List.drop_eq_getElem_cons p2, e1, e2, valsD]
  split <;> rfl
theorem valsD_end {path : List Int} {K : Int} {l r : List Int} {k f : Nat} (h : l.length ≤ k) : valsD path K f (l.drop k) (r.drop k) = [] := by
  rw [List.drop_of_length_le h]; cases List.drop k r <;> rfl

set_option maxHeartbeats 8000000 in
theorem dfVals_any {x0 x1 x2 x4 x5 x6 x7 x8 x9 x10 x11 x15 x18 x19 x20 x21 x22 x23 x24 x25 x26 x27 x28 x29 x30 x31 x32 x33 x34 x35 x36 x37 x38 x39 x40 x41 x42 x43 x44 x45 x46 x47 x48 x49 x50 x51 x52 x53 x54 x55 x56 x57 x58 x59 x60 x61 x62 x63 x64 x65 x66 x67 x68 x69 x70 x71 x72 x73 x74 x75 x76 x77 x78 x79 x80 x81 x82 x83 x84 x85 x86 x87 x88 x89 x90 x91 x92 x93 x94 x95 x96 x97 x98 x99 x100 x101 x102 x103 x104 x105 x106 x107 x108 x109 x110 x111 x112 x113 x114 x115 x116 x117 x118 : Value} {Q : Exit → Act → World → Prop} {w wi : World} {B hb hc i j m oc wn wc : Nat} {OA WA : Option Addr} {lw : List Bt} {x y : Bt} {c d : Cm} {out : List Ov}
    (hw : BsOk w B WA wn wc lw) (hy : lw[i]? = some y) (hd : y.cms[j]? = some d) (hlen : d.vals.length = c.vals.length) (hval : ∀ v ∈ d.vals, (Lit.int .i64 v).wf = true) (h8 : c.n ≤ 1048576)
    (hbl : Below w.heap.size w wi) (hbk : Bk wi hb 40 #[.slice x.pA x.pn x.pc, .slice x.cA x.cn x.cc]) (hpr : RdY wi 0 3 1 x.pA x.pn (x.path.map (Value.int .i64))) (hpl : x.pn = x.path.length) (hp1 : x.pn ≤ 1000) (hpc : x.pn ≤ x.pc) (hpc2 : x.pc ≤ 9223372036854775807)
    (hck : Bk wi hc 166 #[.int .i64 c.k, .slice c.A c.n c.c]) (hcy : CmY wi 0 c) (hO : OvI wi w.heap.size OA m oc out) (hm : (out.map Ov.p ++ valsD x.path c.k 0 c.vals d.vals).length ≤ 40)
    (hN : ∀ (y18 y19 y78 y79 y80 y81 y82 y83 y84 y85 y86 y87 y88 y89 y90 y91 y92 y93 y94 y95 y96 y97 y98 y99 y100 y101 y102 y103 y104 y105 y106 y107 y108 y109 y110 y111 y112 : Value) (OA' : Option Addr) (m' oc' : Nat) (out' : List Ov) (w' : World), Hid (Below w.heap.size w w' ∧ Kx 0 [158] wi w' ∧ OvI w' w.heap.size OA' m' oc' out' ∧ out'.map Ov.p = out.map Ov.p ++ valsD x.path c.k 0 c.vals d.vals) → Q .normal ⟨#[x0, x1, x2, .slice WA wn wc, x4, x5, x6, x7, x8, x9, x10, x11, .slice OA' m' oc', .int .i64 (i : Int), .pointer (some ⟨hb, 0, none⟩), x15, .int .i64 (j : Int), .pointer (some ⟨hc, 0, none⟩), y18, y19, x20, x21, x22, x23, x24, x25, x26, x27, x28, x29, x30, x31, x32, x33, x34, x35, x36, x37, x38, x39, x40, x41, x42, x43, x44, x45, x46, x47, x48, x49, x50, x51, x52, x53, x54, x55, x56, x57, x58, x59, x60, x61, x62, x63, x64, x65, x66, x67, x68, x69, x70, x71, x72, x73, x74, x75, x76, x77, y78, y79, y80, y81, y82, y83, y84, y85, y86, y87, y88, y89, y90, y91, y92, y93, y94, y95, y96, y97, y98, y99, y100, y101, y102, y103, y104, y105, y106, y107, y108, y109, y110, y111, y112, x113, x114, x115, x116, x117, x118], []⟩ w') :
    Code.wp Try.prog dfVals Q ⟨#[x0, x1, x2, .slice WA wn wc, x4, x5, x6, x7, x8, x9, x10, x11, .slice OA m oc, .int .i64 (i : Int), .pointer (some ⟨hb, 0, none⟩), x15, .int .i64 (j : Int), .pointer (some ⟨hc, 0, none⟩), x18, x19, x20, x21, x22, x23, x24, x25, x26, x27, x28, x29, x30, x31, x32, x33, x34, x35, x36, x37, x38, x39, x40, x41, x42, x43, x44, x45, x46, x47, x48, x49, x50, x51, x52, x53, x54, x55, x56, x57, x58, x59, x60, x61, x62, x63, x64, x65, x66, x67, x68, x69, x70, x71, x72, x73, x74, x75, x76, x77, x78, x79, x80, x81, x82, x83, x84, x85, x86, x87, x88, x89, x90, x91, x92, x93, x94, x95, x96, x97, x98, x99, x100, x101, x102, x103, x104, x105, x106, x107, x108, x109, x110, x111, x112, x113, x114, x115, x116, x117, x118], []⟩ wi := by
  conv => arg 2; whnf
  obtain ⟨DD, hT⟩ : ∃ DD, DD = out.map Ov.p ++ valsD x.path c.k 0 c.vals d.vals := ⟨_, rfl⟩
  rw [← hT] at hm hN
  have hT0 : DD = out.map Ov.p ++ valsD x.path c.k 0 (c.vals.drop 0) (d.vals.drop 0) := hT
  have hB := hw.lo
  have hww := hw.below (hbl.mono hB)
  have hin : i < wn := by have := (List.getElem?_eq_some_iff.1 hy).1; have := hw.len; omega
  obtain ⟨b, o, rfl, hbb, q0, q1⟩ := hww.rd.bt hin hy
  have hyo := (hww.ok y (List.mem_of_getElem? hy)).cs
  have hjn : j < y.cn := by have := (List.getElem?_eq_some_iff.1 hd).1; have := hyo.len; omega
  obtain ⟨b2, o2, hA2, hbb2, r0, r1⟩ := hyo.rd.cm hjn hd
  have hdo := (hw.ok y (List.mem_of_getElem? hy)).cs.ok d (List.mem_of_getElem? hd)
  have hwcap := hw.cap
  have hwcap2 := hw.cap2
  have hycap := hyo.cap
  have hycap2 := hyo.cap2
  have hdcap := hdo.cap
  have hdcap2 := hdo.cap2
  have hdn : d.n = c.n := by have h1 := hdo.len; have h2 := hcy.len; omega
  have hiz : (i : Int) < wn := by omega
  have hiz0 : (0 : Int) ≤ i := by omega
  have hjz : (j : Int) < y.cn := by omega
  have hjz0 : (0 : Int) ≤ j := by omega
  rw [hA2] at q1
  have HT := Lib.hid hT0
  have HBL := Lib.hid hbl
  have HBK := Lib.hid hbk
  have HPR := Lib.hid (And.intro hpr (And.intro hpl (And.intro hpc hpc2)))
  have HCK := Lib.hid hck
  have HCY := Lib.hid hcy
  have HO := Lib.hid hO
  have HDR := Lib.hid hdo.rd
  have HDL := Lib.hid (And.intro hdo.len (And.intro hlen hval))
  have hcl2 := hcy.cap
  have hcl3 := hcy.cap2
  obtain ⟨i5, hi5, hz50, hz51, hz52⟩ := info_parts T.info158Q
  clear hw hy hd hlen hval hbl hbk hpr hpl hpc hpc2 hck hcy hO hT hT0 hww hbb hyo hbb2 hdo hA2
  generalize y.cn = ycn at *
  generalize y.cc = ycc at *
  generalize hxpA : x.pA = pA at *
  generalize hxpn : x.pn = pn at *
  generalize hxpc : x.pc = pc at *
  generalize x.cA = xcA at *
  generalize x.cn = xcn at *
  generalize x.cc = xcc at *
  generalize hck : c.k = ck at *
  generalize hcA : c.A = cA at *
  generalize hcn : c.n = cn at *
  generalize hcc : c.c = cc at *
  generalize d.A = dA at *
  generalize d.c = dc at *
  generalize d.n = dn at *
  subst hdn
  have HCV := Lib.hid (And.intro hck (And.intro hcA (And.intro hcn hcc)))
  have HXV := Lib.hid (And.intro hxpA (And.intro hxpn hxpc))
  clear hck hcA hcn hcc hxpA hxpn hxpc
  go_wp2_with fail
  go_loopw [12, 88] (fun av iv wx => ∃ (k m3 c3 : Nat) (A3 : Option Addr), k ≤ dn ∧ iv = .int .i64 k ∧ av = .slice A3 m3 c3 ∧ m3 ≤ 40 ∧ Hid (∃ l3, OvI wx w.heap.size A3 m3 c3 l3 ∧ DD = l3.map Ov.p ++ valsD x.path ck k (c.vals.drop k) (d.vals.drop k)) ∧ Hid (Below w.heap.size w wx) ∧ Hid (Kx 0 [158] wi wx)) (fun _ iv _ => dn - (intOf iv).toNat)
  case atStart =>
    refine ⟨0, m, oc, OA, Nat.zero_le _, rfl, rfl, ?_, Lib.hid ⟨out, HO.out, HT.out⟩, HBL, Lib.hid Kx.refl⟩
    have h1 := HT.out
    have h2 := HO.out.len
    rw [h1, List.length_append, List.length_map] at hm
    omega
  case round =>
    clear HT HO HBL q0 q1 r0 r1
    obtain ⟨k, m3, c3, A3, hk, rfl, rfl, hm3, HI, HW, HX⟩ := hrel
    obtain ⟨l3, hI3, hT3⟩ := HI.out
    by_cases hlt : k < dn
    · have hkz : (k : Int) < dn := by omega
      have hkz0 : (0 : Int) ≤ k := by omega
      obtain ⟨dv, hdv⟩ : ∃ dv, d.vals[k]? = some dv := ⟨_, List.getElem?_eq_getElem (by have := HDL.out.1; omega)⟩
      obtain ⟨cv, hcv⟩ : ∃ cv, c.vals[k]? = some cv := ⟨_, List.getElem?_eq_getElem (by have := HDL.out.1; have := HDL.out.2.1; omega)⟩
      have hgd : (d.vals.map (Value.int .i64))[k]? = some (.int .i64 dv) := by rw [List.getElem?_map, hdv]; rfl
      have hgc : (c.vals.map (Value.int .i64))[k]? = some (.int .i64 cv) := by rw [List.getElem?_map, hcv]; rfl
      obtain ⟨b3, o3, rfl, hbb3, u0⟩ := (HDR.out.below (HW.out.mono hB)).at1 hlt hgd
      have hcyw := HCY.out.keep HX.out (by decide)
      have hcrd := hcyw.rd.rd
      rw [HCV.out.2.1, HCV.out.2.2.1] at hcrd
      obtain ⟨b4, o4, rfl, hbb4, u1⟩ := hcrd.at1 hlt hgc
      have hckw := HX.out.bk HCK.out (by decide)
      have hbkw := HX.out.bk HBK.out (by decide)
      have u2 : wr.cell? ⟨hc, 1, none⟩ = some (.slice (some ⟨b4, o4, none⟩) dn cc) := hckw.cell 1
      have hTd := hT3
      rw [valsD_drop hcv hdv k] at hTd
      have hvw := HDL.out.2.2 dv (List.mem_of_getElem? hdv)
      have HHC := Lib.hid hckw
      have HHB := Lib.hid hbkw
      have HTD := Lib.hid hTd
      have HVW := Lib.hid hvw
      clear hdv hcv hgd hgc hbb3 hbb4 hcyw hcrd hckw hbkw hTd hvw hT3
      by_cases hne : dv = cv
      · subst hne
        have t0 : (dv != dv) = false := by simp
        have HT4 : Hid (∃ l3, OvI wr w.heap.size A3 m3 c3 l3 ∧ DD = l3.map Ov.p ++ valsD x.path ck (k + 1) (c.vals.drop (k + 1)) (d.vals.drop (k + 1))) := Lib.hid ⟨l3, hI3, by have h := HTD.out; rw [if_neg (by simp)] at h; exact h⟩
        clear hI3
        go_wp2_with fail
        go_roundw
        case measure => simp [intOf]; omega
        case rel => exact ⟨k + 1, m3, c3, A3, by omega, by go_num, rfl, hm3, HT4, HW, HX⟩
      · have t0 : (dv != cv) = true := by simp [hne]
        have hTn : DD = (l3.map Ov.p ++ [(x.path, ck, (k : Int), dv)]) ++ valsD x.path ck (k + 1) (c.vals.drop (k + 1)) (d.vals.drop (k + 1)) := by
          have h := HTD.out; rw [if_pos hne] at h; rw [h, List.append_assoc]
        have hl3 := hI3.len
        have hm4 : m3 + 1 ≤ 40 := by
          rw [hTn, List.length_append, List.length_append, List.length_map] at hm
          simp at hm
          omega
        have hwsz : w.heap.size ≤ wr.heap.size := HW.out.size
        have hcl := fun wx (hb : Kx 0 [] wr wx) => cloneInts_any pA pn pc wx.heap.size (x.path.map (Value.int .i64)) wx (by have h := ((HPR.out.1.keep HX.out (by decide)).keep hb (by simp)).rd; exact h) (by intro u hu; obtain ⟨z, _, rfl⟩ := List.mem_map.1 hu; rfl) (Nat.le_refl _) (by omega)
        have HCL := Lib.hid hcl
        have HI3 := Lib.hid hI3
        have HTN := Lib.hid hTn
        have d1 : wr.cell? ⟨hb, 0, none⟩ = some (.slice pA pn pc) := HHB.out.cell 0
        have d2 : wr.cell? ⟨hc, 0, none⟩ = some (.int .i64 ck) := HHC.out.cell 0
        clear hcl hTn hl3 hI3 HTD HI
        go_upto_region 24 with fail
        clear u0 u1 u2
        refine wp_region_noPanic ?_
        go_region_law
          (first
            | (go_simp
               go_at_call 103
               (with_reducible refine (HCL.out wr.drew (Kx.refl.drew)).mono ?_)
               rintro e w6 ⟨A6, c6, rfl, hown6, hb6⟩
               have hh6 : Bk w6 hc 166 #[.int .i64 ck, .slice (some ⟨b4, o4, none⟩) dn cc] := HHC.out.drew.below hb6 HHC.out.lt
               have g1 : w6.cell? ⟨hc, 0, none⟩ = some (.int .i64 ck) := hh6.cell 0
               have how6 : w6.ownsRow w.heap.size 158 4 (.slice A3 m3 c3) m3 (ovCs l3) := own_keepB HI3.out.own fun g hg => hb6.block g (HI3.out.own.lt g hg).2)
            | (refine step_append_one rfl (.tmp 100) (.tmp 110) 44 rfl w.heap.size 158 i5 (.agg #[.slice none 0 0, .int .i64 0, .int .i64 0, .int .i64 0]) 4 48 Try.underlying44 hi5 hz50 hz51 hz52 rfl (by decide) (.slice A3 m3 c3) m3 (ovCs l3) rfl (World.ownsRow.alloc (w := w6) how6 _) w6.heap.size 1 158 #[.slice A6 pn c6, .int .i64 ck, .int .i64 k, .int .i64 dv] rfl (Bk.new w6 _ _) rfl ?c1 (m3 + 1) rfl ?c2 ?c3 ?c4 ?_
               case c1 => simp [Value.oneCell']
               case c2 => unfold maxLen; omega
               case c3 => omega
               case c4 => (have := hb6.size; simp at this; simp; omega)
               intro g7 c7 w7 hown7 hg7 hat7))
        all_goals
          refine NoPanic.normal ?_
          have hk1 : Kx 0 [] wr w6 := Kx.of_below ⟨hb6.os, hb6.tape, hb6.output, hb6.size, hb6.block⟩
          have hk2 : Kx 0 [158] w6 w7 := ((Kx.refl (B := 0)).alloc _).grown (World.ownsRow.alloc (w := w6) how6 _) hg7 (Nat.zero_le _) (by simp)
          have hcp := own_cap2 hown6
          have HIN : Hid (∃ l4, OvI w7 w.heap.size (some ⟨g7, 0, none⟩) (m3 + 1) c7 l4 ∧ DD = l4.map Ov.p ++ valsD x.path ck (k + 1) (c.vals.drop (k + 1)) (d.vals.drop (k + 1))) := Lib.hid (by
            refine ⟨l3 ++ [⟨A6, pn, c6, x.path, ck, (k : Int), dv⟩], ⟨?_, by rw [List.length_append, ← HI3.out.len]; rfl, fun z hz => ?_⟩, ?_⟩
            · rw [show ovCs (l3 ++ [(⟨A6, pn, c6, x.path, ck, (k : Int), dv⟩ : Ov)]) = ovCs l3 ++ (#[Value.slice A6 pn c6, .int .i64 ck, .int .i64 k, .int .i64 dv] : Array Value).toList by simp [ovCs, Ov.cs]]
              exact hown7
            · rcases List.mem_append.1 hz with hz | hz
              · exact ((HI3.out.ok z hz).keep hk1 (by simp)).keep hk2 (by decide)
              · rw [List.mem_singleton.1 hz]
                refine ⟨(RdY.of_own hown6).keep hk2 (by decide), by have h := HPR.out.2.1; exact h, hcp.1, hcp.2, ?_, ?_, HVW.out⟩
                · have h := HCY.out.wf; rw [HCV.out.1] at h; exact h
                · exact wf_i64Q (by show _ ≤ ((k : Nat) : Int); omega) (by show ((k : Nat) : Int) ≤ _; omega)
            · rw [List.map_append]; exact HTN.out)
          have HBN : Hid (Below w.heap.size w w7) := Lib.hid ((HW.out.trans ((⟨hb6.os, hb6.tape, hb6.output, hb6.size, hb6.block⟩ : Below wr.heap.size wr w6).mono hwsz)).trans (((Below.refl _ _).alloc (by have := hb6.size; simp at this; omega) _).trans ⟨hg7.os, hg7.tape, hg7.output, hg7.size, fun q hq => hg7.block q (by have := hb6.size; simp at this; simp; omega) (fun e => by have := (how6.lt q e.symm).1; omega)⟩))
          have HXN : Hid (Kx 0 [158] wi w7) := Lib.hid ((HX.out.trans (hk1.mono (Nat.zero_le _) (by simp))).trans hk2)
          clear hk1 hk2 hown7 hg7 hat7 how6 g1 hh6 hown6 hb6 hcp d1 d2
          go_wp2_with fail
          go_roundw
          case rel => exact ⟨k + 1, m3 + 1, c7, some ⟨g7, 0, none⟩, by omega, by go_num, rfl, hm4, HIN, HBN, HXN⟩
          case measure => simp [intOf]; omega
    · obtain rfl : k = dn := by omega
      have HP : Hid (Below w.heap.size w wr ∧ Kx 0 [158] wi wr ∧ OvI wr w.heap.size A3 m3 c3 l3 ∧ l3.map Ov.p = DD) := Lib.hid ⟨HW.out, HX.out, hI3, by rw [hT3, valsD_end (by have := HDL.out.1; have := HDL.out.2.1; omega), List.append_nil]⟩
      clear hI3 hT3
      go_wp2_with fail
      exact hN _ _ _ _ _ _ _ _ _ _ _ _ _ _ _ _ _ _ _ _ _ _ _ _ _ _ _ _ _ _ _ _ _ _ _ _ _ A3 m3 c3 l3 _ HP

/-! ### Qe -/
noncomputable def dfComps : Code := (Try.f62.body.bind (findR 17)).getD .skip
theorem cmsD_drop {path : List Int} {c d : Int × List Int} : ∀ {l r : List (Int × List Int)} {k : Nat}, l[k]? = some c → r[k]? = some d → cmsD path (l.drop k) (r.drop k) = valsD path c.1 0 c.2 d.2 ++ cmsD path (l.drop (k + 1)) (r.drop (k + 1)) := by
  intro l r k h1 h2
  obtain ⟨p1, e1⟩ := List.getElem?_eq_some_iff.1 h1
  obtain ⟨p2, e2⟩ := List.getElem?_eq_some_iff.1 h2
  rw [List.drop_eq_getElem_cons p1, List.drop_eq_getElem_cons p2, e1, e2, cmsD]
theorem cmsD_end {path : List Int} {l r : List (Int × List Int)} {k : Nat} (h : l.length ≤ k) : cmsD path (l.drop k) (r.drop k) = [] := by
  rw [List.drop_of_length_le h]; cases List.drop k r <;> rfl
theorem shC_at {l r : List Cm} {k : Nat} {c d : Cm} (h : (l.map Cm.p).map shC = (r.map Cm.p).map shC) (hc : l[k]? = some c) (hd : r[k]? = some d) : c.k = d.k ∧ c.vals.length = d.vals.length := by
  have h1 := congrArg (fun q => q[k]?) h
  simp only [List.getElem?_map, hc, hd, Option.map_some] at h1
  injection h1 with h1
  unfold shC Cm.p at h1
  injection h1 with h1 h2
  exact ⟨h1, h2⟩

set_option maxHeartbeats 8000000 in
theorem dfComps_any {x0 x1 x2 x4 x5 x6 x7 x8 x9 x10 x11 x15 x16 x17 x18 x19 x20 x21 x22 x23 x24 x25 x26 x27 x28 x29 x30 x31 x32 x33 x34 x35 x36 x37 x38 x39 x40 x41 x42 x43 x44 x45 x46 x47 x48 x49 x50 x51 x52 x53 x54 x55 x56 x57 x58 x59 x60 x61 x62 x63 x64 x65 x66 x67 x68 x69 x70 x71 x72 x73 x74 x75 x76 x77 x78 x79 x80 x81 x82 x83 x84 x85 x86 x87 x88 x89 x90 x91 x92 x93 x94 x95 x96 x97 x98 x99 x100 x101 x102 x103 x104 x105 x106 x107 x108 x109 x110 x111 x112 x113 x114 x115 x116 x117 x118 : Value} {Q : Exit → Act → World → Prop} {w wi : World} {B hb i m oc wn wc : Nat} {OA WA : Option Addr} {lw : List Bt} {x y : Bt} {out : List Ov}
    (hw : BsOk w B WA wn wc lw) (hy : lw[i]? = some y) (hsh : (x.cms.map Cm.p).map shC = (y.cms.map Cm.p).map shC) (hval : ∀ d ∈ y.cms, ∀ v ∈ d.vals, (Lit.int .i64 v).wf = true) (h8 : ∀ c ∈ x.cms, c.n ≤ 1048576)
    (hbl : Below w.heap.size w wi) (hbk : Bk wi hb 40 #[.slice x.pA x.pn x.pc, .slice x.cA x.cn x.cc]) (hpr : RdY wi 0 3 1 x.pA x.pn (x.path.map (Value.int .i64))) (hpl : x.pn = x.path.length) (hp1 : x.pn ≤ 1000) (hpc : x.pn ≤ x.pc) (hpc2 : x.pc ≤ 9223372036854775807)
    (hcs : CsY wi 0 x.cA x.cn x.cc x.cms) (hO : OvI wi w.heap.size OA m oc out) (hm : (out.map Ov.p ++ cmsD x.path (x.cms.map Cm.p) (y.cms.map Cm.p)).length ≤ 40)
    (hN : ∀ (y16 y17 y18 y19 y70 y71 y72 y73 y74 y75 y76 y77 y78 y79 y80 y81 y82 y83 y84 y85 y86 y87 y88 y89 y90 y91 y92 y93 y94 y95 y96 y97 y98 y99 y100 y101 y102 y103 y104 y105 y106 y107 y108 y109 y110 y111 y112 y113 : Value) (OA' : Option Addr) (m' oc' : Nat) (out' : List Ov) (w' : World), Hid (Below w.heap.size w w' ∧ Kx 0 [158] wi w' ∧ OvI w' w.heap.size OA' m' oc' out' ∧ out'.map Ov.p = out.map Ov.p ++ cmsD x.path (x.cms.map Cm.p) (y.cms.map Cm.p)) → Q .normal ⟨#[x0, x1, x2, .slice WA wn wc, x4, x5, x6, x7, x8, x9, x10, x11, .slice OA' m' oc', .int .i64 (i : Int), .pointer (some ⟨hb, 0, none⟩), x15, y16, y17, y18, y19, x20, x21, x22, x23, x24, x25, x26, x27, x28, x29, x30, x31, x32, x33, x34, x35, x36, x37, x38, x39, x40, x41, x42, x43, x44, x45, x46, x47, x48, x49, x50, x51, x52, x53, x54, x55, x56, x57, x58, x59, x60, x61, x62, x63, x64, x65, x66, x67, x68, x69, y70, y71, y72, y73, y74, y75, y76, y77, y78, y79, y80, y81, y82, y83, y84, y85, y86, y87, y88, y89, y90, y91, y92, y93, y94, y95, y96, y97, y98, y99, y100, y101, y102, y103, y104, y105, y106, y107, y108, y109, y110, y111, y112, y113, x114, x115, x116, x117, x118], []⟩ w') :
    Code.wp Try.prog dfComps Q ⟨#[x0, x1, x2, .slice WA wn wc, x4, x5, x6, x7, x8, x9, x10, x11, .slice OA m oc, .int .i64 (i : Int), .pointer (some ⟨hb, 0, none⟩), x15, x16, x17, x18, x19, x20, x21, x22, x23, x24, x25, x26, x27, x28, x29, x30, x31, x32, x33, x34, x35, x36, x37, x38, x39, x40, x41, x42, x43, x44, x45, x46, x47, x48, x49, x50, x51, x52, x53, x54, x55, x56, x57, x58, x59, x60, x61, x62, x63, x64, x65, x66, x67, x68, x69, x70, x71, x72, x73, x74, x75, x76, x77, x78, x79, x80, x81, x82, x83, x84, x85, x86, x87, x88, x89, x90, x91, x92, x93, x94, x95, x96, x97, x98, x99, x100, x101, x102, x103, x104, x105, x106, x107, x108, x109, x110, x111, x112, x113, x114, x115, x116, x117, x118], []⟩ wi := by
  conv => arg 2; whnf
  obtain ⟨DD, hT⟩ : ∃ DD, DD = out.map Ov.p ++ cmsD x.path (x.cms.map Cm.p) (y.cms.map Cm.p) := ⟨_, rfl⟩
  rw [← hT] at hm hN
  have hT0 : DD = out.map Ov.p ++ cmsD x.path ((x.cms.map Cm.p).drop 0) ((y.cms.map Cm.p).drop 0) := hT
  have hB := hw.lo
  have hccap := hcs.cap
  have hccap2 := hcs.cap2
  have d1 : wi.cell? ⟨hb, 1, none⟩ = some (.slice x.cA x.cn x.cc) := hbk.cell 1
  have HW := Lib.hid hw
  have HY := Lib.hid hy
  have HSH := Lib.hid hsh
  have HVL := Lib.hid hval
  have H8 := Lib.hid h8
  have HDD := Lib.hid hT0
  have HBL := Lib.hid hbl
  have HBK := Lib.hid hbk
  have HPR := Lib.hid (And.intro hpr (And.intro hpl (And.intro hp1 (And.intro hpc hpc2))))
  have HCS := Lib.hid hcs
  have HO := Lib.hid hO
  clear hw hy hsh hval h8 hbl hbk hpr hpl hp1 hpc hpc2 hcs hO hT hT0
  obtain ⟨cA, hcA⟩ : ∃ cA, cA = x.cA := ⟨_, rfl⟩
  obtain ⟨cn, hcn⟩ : ∃ cn, cn = x.cn := ⟨_, rfl⟩
  obtain ⟨cc, hcc⟩ : ∃ cc, cc = x.cc := ⟨_, rfl⟩
  rw [← hcA, ← hcn, ← hcc] at d1
  rw [← hcn, ← hcc] at hccap
  rw [← hcc] at hccap2
  have HCV := Lib.hid (And.intro hcA (And.intro hcn hcc))
  clear hcA hcn hcc
  go_wp2_with fail
  go_loopw [12, 73] (fun av iv wx => ∃ (k m3 c3 : Nat) (A3 : Option Addr), k ≤ cn ∧ iv = .int .i64 k ∧ av = .slice A3 m3 c3 ∧ Hid (∃ l3, OvI wx w.heap.size A3 m3 c3 l3 ∧ DD = l3.map Ov.p ++ cmsD x.path ((x.cms.map Cm.p).drop k) ((y.cms.map Cm.p).drop k)) ∧ Hid (Below w.heap.size w wx) ∧ Hid (Kx 0 [158] wi wx)) (fun _ iv _ => cn - (intOf iv).toNat)
  case atStart => exact ⟨0, m, oc, OA, Nat.zero_le _, rfl, rfl, Lib.hid ⟨out, HO.out, HDD.out⟩, HBL, Lib.hid Kx.refl⟩
  case round =>
    clear HDD HO HBL d1
    obtain ⟨k, m3, c3, A3, hk, rfl, rfl, HI, HWX, HX⟩ := hrel
    obtain ⟨l3, hI3, hT3⟩ := HI.out
    by_cases hlt : k < cn
    · have hkz : (k : Int) < cn := by omega
      have hkz0 : (0 : Int) ≤ k := by omega
      obtain ⟨c, hc⟩ : ∃ c, x.cms[k]? = some c := ⟨_, List.getElem?_eq_getElem (by have := HCS.out.len; have := HCV.out.2.1; omega)⟩
      obtain ⟨d, hd⟩ : ∃ d, y.cms[k]? = some d := ⟨_, List.getElem?_eq_getElem (by have h1 := congrArg List.length HSH.out; rw [List.length_map, List.length_map, List.length_map, List.length_map] at h1; have := (List.getElem?_eq_some_iff.1 hc).1; omega)⟩
      have hcp : (x.cms.map Cm.p)[k]? = some c.p := by rw [List.getElem?_map, hc]; rfl
      have hdp : (y.cms.map Cm.p)[k]? = some d.p := by rw [List.getElem?_map, hd]; rfl
      have hcsw := HCS.out.keep HX.out (by decide) (by decide)
      have hcrd := hcsw.rd.rd
      rw [← HCV.out.1, ← HCV.out.2.1] at hcrd
      obtain ⟨b, o, rfl, hbb, q0, q1⟩ := hcrd.cm hlt hc
      have hcm := List.mem_of_getElem? hc
      obtain ⟨W1, hW1⟩ : ∃ W1, W1 = wr.alloc (.cells #[.int .i64 c.k, .slice c.A c.n c.c] 166) := ⟨_, rfl⟩
      obtain ⟨hh, hhe⟩ : ∃ hh, hh = wr.heap.size := ⟨_, rfl⟩
      have hb1 : Below wr.heap.size wr W1 := by rw [hW1]; exact (Below.refl _ _).alloc (Nat.le_refl _) _
      have hk1 : Kx 0 [] wr W1 := Kx.of_below hb1
      have HH1 : Hid (Bk W1 hh 166 #[.int .i64 c.k, .slice c.A c.n c.c]) := Lib.hid (by rw [hW1, hhe]; exact Bk.new _ _ _)
      have HB1 : Hid (Below w.heap.size w W1) := Lib.hid (HWX.out.trans (hb1.mono HWX.out.size))
      have HX1 : Hid (Kx 0 [158] wi W1) := Lib.hid (HX.out.trans (hk1.mono (Nat.zero_le _) (by simp)))
      have HO1 : Hid (OvI W1 w.heap.size A3 m3 c3 l3) := Lib.hid (hI3.keep hk1 (by simp) (by simp))
      have HC1 : Hid (CmY W1 0 c) := Lib.hid ((hcsw.ok c hcm).keep hk1 (by simp))
      have hTd := hT3
      rw [cmsD_drop hcp hdp] at hTd
      have HTD := Lib.hid hTd
      have HCD := Lib.hid (And.intro hc (And.intro hd (And.intro hcm (List.mem_of_getElem? hd))))
      have HW1 := Lib.hid (And.intro hW1 hhe)
      clear hc hd hcp hdp hcsw hcrd hbb hcm hb1 hk1 hTd hT3 hI3 HI hW1 hhe
      go_upto_region 19 with fail
      go_cut [16, 17] from 75 to 77 (fun s16 s17 wx => s16 = .int .i64 (k : Int) ∧ s17 = .pointer (some ⟨hh, 0, none⟩) ∧ wx = W1)
      case first =>
        go_wp2_with fail
        go_meet
        case rel => exact ⟨rfl, by rw [HW1.out.2], HW1.out.1.symm⟩
      case rest =>
        obtain ⟨rfl, rfl, rfl⟩ := hcut
        clear q0 q1
        go_step
        refine dfVals_any HW.out HY.out HCD.out.2.1 (shC_at HSH.out HCD.out.1 HCD.out.2.1).2.symm (HVL.out d HCD.out.2.2.2) (H8.out c HCD.out.2.2.1) HB1.out (HX1.out.bk HBK.out (by decide)) (HPR.out.1.keep HX1.out (by decide)) HPR.out.2.1 HPR.out.2.2.1 HPR.out.2.2.2.1 HPR.out.2.2.2.2 HH1.out HC1.out HO1.out ?_ ?_
        · have h := HTD.out
          rw [h, ← List.append_assoc, List.length_append] at hm
          exact Nat.le_trans (Nat.le_add_right _ _) hm
        · intros
          rename_i OA' m' oc' out' w' HR
          obtain ⟨w5, rfl⟩ : ∃ q, q = w' := ⟨_, rfl⟩
          have HN5 : Hid (∃ l3, OvI w5 w.heap.size OA' m' oc' l3 ∧ DD = l3.map Ov.p ++ cmsD x.path ((x.cms.map Cm.p).drop (k + 1)) ((y.cms.map Cm.p).drop (k + 1))) := Lib.hid ⟨out', HR.out.2.2.1, by rw [HR.out.2.2.2, HTD.out, List.append_assoc]; rfl⟩
          have HB5 : Hid (Below w.heap.size w w5) := Lib.hid HR.out.1
          have HX5 : Hid (Kx 0 [158] wi w5) := Lib.hid (HX1.out.trans HR.out.2.1)
          clear HR HTD
          go_wp2_with fail
          go_roundw
          case measure => simp [intOf]; omega
          case rel => exact ⟨k + 1, m', oc', OA', by omega, by go_num, rfl, HN5, HB5, HX5⟩
    · obtain rfl : k = cn := by omega
      have HP : Hid (Below w.heap.size w wr ∧ Kx 0 [158] wi wr ∧ OvI wr w.heap.size A3 m3 c3 l3 ∧ l3.map Ov.p = DD) := Lib.hid ⟨HWX.out, HX.out, hI3, by rw [hT3, cmsD_end (by rw [List.length_map, ← HCS.out.len, ← HCV.out.2.1]; exact Nat.le_refl _), List.append_nil]⟩
      clear hI3 hT3
      go_wp2_with fail
      exact hN _ _ _ _ _ _ _ _ _ _ _ _ _ _ _ _ _ _ _ _ _ _ _ _ _ _ _ _ _ _ _ _ _ _ _ _ _ _ _ _ _ _ _ _ _ _ _ _ A3 m3 c3 l3 _ HP

/-! ### Qg -/
theorem enters143 : ∀ (ar : Array Value) (wx : World), (callFunc 143 ar).run Try.prog wx = .ok (.enter 143 ar) wx := fun ar wx => by kernel_rfl
theorem OvsOk.ok1 {w : World} {B n c : Nat} {A : Option Addr} {l : List Ov} (h : OvsOk w B A n c l) {x : Ov} (hx : x ∈ l) : OvOk w B x := h.ok x hx

set_option maxHeartbeats 1600000 in
theorem eqFuncCm_any {γ : Type} [DecidableEq γ] {w : World} {B B' n n' c c' F : Nat} {A A' : Option Addr} {l l' : List Cm} (π : Cm → γ) (hE : ∀ (ar : Array Value) (wx : World), (callFunc F ar).run Try.prog wx = .ok (.enter F ar) wx) (h : CsOk w B A n c l) (h' : CsOk w B' A' n' c' l')
    (hF : ∀ (wx : World) (x y : Cm), x ∈ l → y ∈ l' → CmOk wx B x → CmOk wx B' y → B ≤ wx.heap.size → B' ≤ wx.heap.size → Calls Try.prog F #[.agg #[.int .i64 x.k, .slice x.A x.n x.c], .agg #[.int .i64 y.k, .slice y.A y.n y.c]] wx fun e w' => e = .returned (.bool (decide (π x = π y))) ∧ Below wx.heap.size wx w') :
    Calls Try.prog 142 #[.slice A n c, .slice A' n' c', .func (.func F) #[] #[]] w fun e w' => e = .returned (.bool (decide (l.map π = l'.map π))) ∧ Below w.heap.size w w' := by
  have hcap := h.cap
  have hcap2 := h.cap2
  have hcap' := h'.cap
  have hcap2' := h'.cap2
  by_cases h0 : n = n'
  · subst h0
    have t0 : ((n : Int) != n) = false := by simp
    have HK := Lib.hid h
    have HK' := Lib.hid h'
    have HF := Lib.hid hF
    have HE := Lib.hid hE
    have hB := h.lo
    have hB' := h'.lo
    clear h h' hF hE
    go_enter Try.func142, Try.ntmps142
    go_wp2_with fail
    go_loopw [17] (fun i wr => ∃ k : Nat, k ≤ n ∧ i = .int .i64 k ∧ Hid ((l.map π).take k = (l'.map π).take k) ∧ Hid (Below w.heap.size w wr)) (fun i _ => n - (intOf i).toNat)
    case atStart => exact ⟨0, Nat.zero_le _, rfl, Lib.hid rfl, Lib.hid (Below.refl _ _)⟩
    case round =>
      obtain ⟨k, hk, rfl, HT, HW⟩ := hrel
      by_cases hlt : k < n
      · obtain ⟨x, hx⟩ : ∃ x, l[k]? = some x := ⟨_, List.getElem?_eq_getElem (by have := HK.out.len; omega)⟩
        obtain ⟨y, hy⟩ : ∃ y, l'[k]? = some y := ⟨_, List.getElem?_eq_getElem (by have := HK'.out.len; omega)⟩
        have hbw := HW.out.mono hB
        have hbw' := HW.out.mono hB'
        obtain ⟨b, o, rfl, hb, q0, q1⟩ := (HK.out.below hbw).rd.cm hlt hx
        obtain ⟨b', o', rfl, hb', r0, r1⟩ := (HK'.out.below hbw').rd.cm hlt hy
        have HX : Hid ((l.map π)[k]? = some (π x)) := Lib.hid (by rw [List.getElem?_map, hx]; rfl)
        have HY : Hid ((l'.map π)[k]? = some (π y)) := Lib.hid (by rw [List.getElem?_map, hy]; rfl)
        have hb1 : Below wr.heap.size wr ((wr.alloc (.cells #[.int .i64 x.k, .slice x.A x.n x.c] 166)).alloc (.cells #[.int .i64 y.k, .slice y.A y.n y.c] 166)) := ((Below.refl _ _).alloc (Nat.le_refl _) _).alloc (by simp) _
        have hcl := HF.out ((wr.alloc (.cells #[.int .i64 x.k, .slice x.A x.n x.c] 166)).alloc (.cells #[.int .i64 y.k, .slice y.A y.n y.c] 166)) x y (List.mem_of_getElem? hx) (List.mem_of_getElem? hy) (((HK.out.below hbw).ok x (List.mem_of_getElem? hx)).below (hb1.mono (Nat.le_trans hB HW.out.size))) (((HK'.out.below hbw').ok y (List.mem_of_getElem? hy)).below (hb1.mono (Nat.le_trans hB' HW.out.size))) (by have := HW.out.size; simp; omega) (by have := HW.out.size; simp; omega)
        obtain ⟨d, hd⟩ : ∃ d, d = decide (π x = π y) := ⟨_, rfl⟩
        rw [← hd] at hcl
        have HCL := Lib.hid hcl
        have HD := Lib.hid hd
        have HB1 := Lib.hid (HW.out.trans (hb1.mono HW.out.size))
        have hq := (((Below.refl wr.heap.size wr).alloc (Nat.le_refl _) (.cells #[.int .i64 x.k, .slice x.A x.n x.c] 166)).block b' (by have := HW.out.size; omega))
        have HQ := Lib.hid hq
        have hkn : (k : Int) < n := by omega
        have hk0 : (0 : Int) ≤ k := by omega
        have hbr : b < wr.heap.size := by have := HW.out.size; omega
        have hbr' : b' < wr.heap.size := by have := HW.out.size; omega
        clear hx hy hbw hbw' hb1 hcl hd hq
        generalize hx_k : x.k = x_k at *
        generalize hy_k : y.k = y_k at *
        generalize hx_A : x.A = x_A at *
        generalize hy_A : y.A = y_A at *
        generalize hx_n : x.n = x_n at *
        generalize hy_n : y.n = y_n at *
        generalize hx_c : x.c = x_c at *
        generalize hy_c : y.c = y_c at *
        clear hx_k hy_k hx_A hy_A hx_n hy_n hx_c hy_c
        go_wp2_with fail
        rw [HE.out, Oper.upon_enter]
        (with_reducible refine HCL.out.mono ?_)
        rintro e w3 ⟨rfl, hb3⟩
        have HB3 := Lib.hid (HB1.out.trans (hb3.mono HB1.out.size))
        clear hb3
        cases d
        · go_wp2_with fail
          go_ret
          have hne : l.map π ≠ l'.map π := ne_of_at HX.out HY.out (of_decide_eq_false HD.out.symm)
          exact ⟨ret_b (by rw [decide_eq_false hne]), HB3.out⟩
        · go_wp2_with fail
          go_roundw
          case measure => simp [intOf]; omega
          case rel => exact ⟨k + 1, by omega, by go_num, Lib.hid (take_eq_succ HX.out HY.out HT.out (of_decide_eq_true HD.out.symm)), HB3⟩
      · obtain rfl : n = k := by omega
        go_wp2_with fail
        go_ret
        have h1 := HT.out
        rw [List.take_of_length_le (by rw [List.length_map, ← HK.out.len]; omega), List.take_of_length_le (by rw [List.length_map, ← HK'.out.len]; omega)] at h1
        exact ⟨ret_b (by simp [h1]), HW.out⟩
  · have t0 : ((n : Int) != n') = true := by simp; omega
    have HE : Hid (l.map π ≠ l'.map π) := Lib.hid (by
      intro e
      have := congrArg List.length e
      rw [List.length_map, List.length_map, ← h.len, ← h'.len] at this
      exact h0 this)
    clear h h' h0 hE
    go_enter Try.func142, Try.ntmps142
    go_wp2_with fail
    go_ret
    exact ⟨ret_b (by simp [HE.out]), Below.refl _ _⟩

set_option maxHeartbeats 1600000 in
theorem eqFuncBt_any {γ : Type} [DecidableEq γ] {w : World} {B B' n n' c c' F : Nat} {A A' : Option Addr} {l l' : List Bt} (π : Bt → γ) (hE : ∀ (ar : Array Value) (wx : World), (callFunc F ar).run Try.prog wx = .ok (.enter F ar) wx) (h : BsOk w B A n c l) (h' : BsOk w B' A' n' c' l')
    (hF : ∀ (wx : World) (x y : Bt), x ∈ l → y ∈ l' → BtOk wx B x → BtOk wx B' y → B ≤ wx.heap.size → B' ≤ wx.heap.size → Calls Try.prog F #[.agg #[.slice x.pA x.pn x.pc, .slice x.cA x.cn x.cc], .agg #[.slice y.pA y.pn y.pc, .slice y.cA y.cn y.cc]] wx fun e w' => e = .returned (.bool (decide (π x = π y))) ∧ Below wx.heap.size wx w') :
    Calls Try.prog 147 #[.slice A n c, .slice A' n' c', .func (.func F) #[] #[]] w fun e w' => e = .returned (.bool (decide (l.map π = l'.map π))) ∧ Below w.heap.size w w' := by
  have hcap := h.cap
  have hcap2 := h.cap2
  have hcap' := h'.cap
  have hcap2' := h'.cap2
  by_cases h0 : n = n'
  · subst h0
    have t0 : ((n : Int) != n) = false := by simp
    have HK := Lib.hid h
    have HK' := Lib.hid h'
    have HF := Lib.hid hF
    have HE := Lib.hid hE
    have hB := h.lo
    have hB' := h'.lo
    clear h h' hF hE
    go_enter Try.func147, Try.ntmps147
    go_wp2_with fail
    go_loopw [17] (fun i wr => ∃ k : Nat, k ≤ n ∧ i = .int .i64 k ∧ Hid ((l.map π).take k = (l'.map π).take k) ∧ Hid (Below w.heap.size w wr)) (fun i _ => n - (intOf i).toNat)
    case atStart => exact ⟨0, Nat.zero_le _, rfl, Lib.hid rfl, Lib.hid (Below.refl _ _)⟩
    case round =>
      obtain ⟨k, hk, rfl, HT, HW⟩ := hrel
      by_cases hlt : k < n
      · obtain ⟨x, hx⟩ : ∃ x, l[k]? = some x := ⟨_, List.getElem?_eq_getElem (by have := HK.out.len; omega)⟩
        obtain ⟨y, hy⟩ : ∃ y, l'[k]? = some y := ⟨_, List.getElem?_eq_getElem (by have := HK'.out.len; omega)⟩
        have hbw := HW.out.mono hB
        have hbw' := HW.out.mono hB'
        obtain ⟨b, o, rfl, hb, q0, q1⟩ := (HK.out.below hbw).rd.bt hlt hx
        obtain ⟨b', o', rfl, hb', r0, r1⟩ := (HK'.out.below hbw').rd.bt hlt hy
        have HX : Hid ((l.map π)[k]? = some (π x)) := Lib.hid (by rw [List.getElem?_map, hx]; rfl)
        have HY : Hid ((l'.map π)[k]? = some (π y)) := Lib.hid (by rw [List.getElem?_map, hy]; rfl)
        have hb1 : Below wr.heap.size wr ((wr.alloc (.cells #[.slice x.pA x.pn x.pc, .slice x.cA x.cn x.cc] 40)).alloc (.cells #[.slice y.pA y.pn y.pc, .slice y.cA y.cn y.cc] 40)) := ((Below.refl _ _).alloc (Nat.le_refl _) _).alloc (by simp) _
        have hcl := HF.out ((wr.alloc (.cells #[.slice x.pA x.pn x.pc, .slice x.cA x.cn x.cc] 40)).alloc (.cells #[.slice y.pA y.pn y.pc, .slice y.cA y.cn y.cc] 40)) x y (List.mem_of_getElem? hx) (List.mem_of_getElem? hy) (((HK.out.below hbw).ok x (List.mem_of_getElem? hx)).below (hb1.mono (Nat.le_trans hB HW.out.size))) (((HK'.out.below hbw').ok y (List.mem_of_getElem? hy)).below (hb1.mono (Nat.le_trans hB' HW.out.size))) (by have := HW.out.size; simp; omega) (by have := HW.out.size; simp; omega)
        obtain ⟨d, hd⟩ : ∃ d, d = decide (π x = π y) := ⟨_, rfl⟩
        rw [← hd] at hcl
        have HCL := Lib.hid hcl
        have HD := Lib.hid hd
        have HB1 := Lib.hid (HW.out.trans (hb1.mono HW.out.size))
        have hq := (((Below.refl wr.heap.size wr).alloc (Nat.le_refl _) (.cells #[.slice x.pA x.pn x.pc, .slice x.cA x.cn x.cc] 40)).block b' (by have := HW.out.size; omega))
        have HQ := Lib.hid hq
        have hkn : (k : Int) < n := by omega
        have hk0 : (0 : Int) ≤ k := by omega
        have hbr : b < wr.heap.size := by have := HW.out.size; omega
        have hbr' : b' < wr.heap.size := by have := HW.out.size; omega
        clear hx hy hbw hbw' hb1 hcl hd hq
        generalize hx_pA : x.pA = x_pA at *
        generalize hy_pA : y.pA = y_pA at *
        generalize hx_pn : x.pn = x_pn at *
        generalize hy_pn : y.pn = y_pn at *
        generalize hx_pc : x.pc = x_pc at *
        generalize hy_pc : y.pc = y_pc at *
        generalize hx_cA : x.cA = x_cA at *
        generalize hy_cA : y.cA = y_cA at *
        generalize hx_cn : x.cn = x_cn at *
        generalize hy_cn : y.cn = y_cn at *
        generalize hx_cc : x.cc = x_cc at *
        generalize hy_cc : y.cc = y_cc at *
        clear hx_pA hy_pA hx_pn hy_pn hx_pc hy_pc hx_cA hy_cA hx_cn hy_cn hx_cc hy_cc
        go_wp2_with fail
        rw [HE.out, Oper.upon_enter]
        (with_reducible refine HCL.out.mono ?_)
        rintro e w3 ⟨rfl, hb3⟩
        have HB3 := Lib.hid (HB1.out.trans (hb3.mono HB1.out.size))
        clear hb3
        cases d
        · go_wp2_with fail
          go_ret
          have hne : l.map π ≠ l'.map π := ne_of_at HX.out HY.out (of_decide_eq_false HD.out.symm)
          exact ⟨ret_b (by rw [decide_eq_false hne]), HB3.out⟩
        · go_wp2_with fail
          go_roundw
          case measure => simp [intOf]; omega
          case rel => exact ⟨k + 1, by omega, by go_num, Lib.hid (take_eq_succ HX.out HY.out HT.out (of_decide_eq_true HD.out.symm)), HB3⟩
      · obtain rfl : n = k := by omega
        go_wp2_with fail
        go_ret
        have h1 := HT.out
        rw [List.take_of_length_le (by rw [List.length_map, ← HK.out.len]; omega), List.take_of_length_le (by rw [List.length_map, ← HK'.out.len]; omega)] at h1
        exact ⟨ret_b (by simp [h1]), HW.out⟩
  · have t0 : ((n : Int) != n') = true := by simp; omega
    have HE : Hid (l.map π ≠ l'.map π) := Lib.hid (by
      intro e
      have := congrArg List.length e
      rw [List.length_map, List.length_map, ← h.len, ← h'.len] at this
      exact h0 this)
    clear h h' h0 hE
    go_enter Try.func147, Try.ntmps147
    go_wp2_with fail
    go_ret
    exact ⟨ret_b (by simp [HE.out]), Below.refl _ _⟩

set_option maxHeartbeats 1600000 in
theorem eqFuncOv_any {γ : Type} [DecidableEq γ] {w : World} {B B' n n' c c' F : Nat} {A A' : Option Addr} {l l' : List Ov} (π : Ov → γ) (hE : ∀ (ar : Array Value) (wx : World), (callFunc F ar).run Try.prog wx = .ok (.enter F ar) wx) (h : OvsOk w B A n c l) (h' : OvsOk w B' A' n' c' l')
    (hF : ∀ (wx : World) (x y : Ov), x ∈ l → y ∈ l' → OvOk wx B x → OvOk wx B' y → B ≤ wx.heap.size → B' ≤ wx.heap.size → Calls Try.prog F #[.agg #[.slice x.pA x.pn x.pc, .int .i64 x.K, .int .i64 x.F, .int .i64 x.V], .agg #[.slice y.pA y.pn y.pc, .int .i64 y.K, .int .i64 y.F, .int .i64 y.V]] wx fun e w' => e = .returned (.bool (decide (π x = π y))) ∧ Below wx.heap.size wx w') :
    Calls Try.prog 79 #[.slice A n c, .slice A' n' c', .func (.func F) #[] #[]] w fun e w' => e = .returned (.bool (decide (l.map π = l'.map π))) ∧ Below w.heap.size w w' := by
  have hcap := h.cap
  have hcap2 := h.cap2
  have hcap' := h'.cap
  have hcap2' := h'.cap2
  by_cases h0 : n = n'
  · subst h0
    have t0 : ((n : Int) != n) = false := by simp
    have HK := Lib.hid h
    have HK' := Lib.hid h'
    have HF := Lib.hid hF
    have HE := Lib.hid hE
    have hB := h.lo
    have hB' := h'.lo
    clear h h' hF hE
    go_enter Try.func79, Try.ntmps79
    go_wp2_with fail
    go_loopw [17] (fun i wr => ∃ k : Nat, k ≤ n ∧ i = .int .i64 k ∧ Hid ((l.map π).take k = (l'.map π).take k) ∧ Hid (Below w.heap.size w wr)) (fun i _ => n - (intOf i).toNat)
    case atStart => exact ⟨0, Nat.zero_le _, rfl, Lib.hid rfl, Lib.hid (Below.refl _ _)⟩
    case round =>
      obtain ⟨k, hk, rfl, HT, HW⟩ := hrel
      by_cases hlt : k < n
      · obtain ⟨x, hx⟩ : ∃ x, l[k]? = some x := ⟨_, List.getElem?_eq_getElem (by have := HK.out.len; omega)⟩
        obtain ⟨y, hy⟩ : ∃ y, l'[k]? = some y := ⟨_, List.getElem?_eq_getElem (by have := HK'.out.len; omega)⟩
        have hbw := HW.out.mono hB
        have hbw' := HW.out.mono hB'
        obtain ⟨b, o, rfl, hb, q0, q1, q2, q3⟩ := (HK.out.below hbw).rd.ov hlt hx
        obtain ⟨b', o', rfl, hb', r0, r1, r2, r3⟩ := (HK'.out.below hbw').rd.ov hlt hy
        have HX : Hid ((l.map π)[k]? = some (π x)) := Lib.hid (by rw [List.getElem?_map, hx]; rfl)
        have HY : Hid ((l'.map π)[k]? = some (π y)) := Lib.hid (by rw [List.getElem?_map, hy]; rfl)
        have hb1 : Below wr.heap.size wr ((wr.alloc (.cells #[.slice x.pA x.pn x.pc, .int .i64 x.K, .int .i64 x.F, .int .i64 x.V] 158)).alloc (.cells #[.slice y.pA y.pn y.pc, .int .i64 y.K, .int .i64 y.F, .int .i64 y.V] 158)) := ((Below.refl _ _).alloc (Nat.le_refl _) _).alloc (by simp) _
        have hcl := HF.out ((wr.alloc (.cells #[.slice x.pA x.pn x.pc, .int .i64 x.K, .int .i64 x.F, .int .i64 x.V] 158)).alloc (.cells #[.slice y.pA y.pn y.pc, .int .i64 y.K, .int .i64 y.F, .int .i64 y.V] 158)) x y (List.mem_of_getElem? hx) (List.mem_of_getElem? hy) (((HK.out.below hbw).ok x (List.mem_of_getElem? hx)).below (hb1.mono (Nat.le_trans hB HW.out.size))) (((HK'.out.below hbw').ok y (List.mem_of_getElem? hy)).below (hb1.mono (Nat.le_trans hB' HW.out.size))) (by have := HW.out.size; simp; omega) (by have := HW.out.size; simp; omega)
        obtain ⟨d, hd⟩ : ∃ d, d = decide (π x = π y) := ⟨_, rfl⟩
        rw [← hd] at hcl
        have HCL := Lib.hid hcl
        have HD := Lib.hid hd
        have HB1 := Lib.hid (HW.out.trans (hb1.mono HW.out.size))
        have hq := (((Below.refl wr.heap.size wr).alloc (Nat.le_refl _) (.cells #[.slice x.pA x.pn x.pc, .int .i64 x.K, .int .i64 x.F, .int .i64 x.V] 158)).block b' (by have := HW.out.size; omega))
        have HQ := Lib.hid hq
        have hkn : (k : Int) < n := by omega
        have hk0 : (0 : Int) ≤ k := by omega
        have hbr : b < wr.heap.size := by have := HW.out.size; omega
        have hbr' : b' < wr.heap.size := by have := HW.out.size; omega
        clear hx hy hbw hbw' hb1 hcl hd hq
        generalize hx_pA : x.pA = x_pA at *
        generalize hy_pA : y.pA = y_pA at *
        generalize hx_pn : x.pn = x_pn at *
        generalize hy_pn : y.pn = y_pn at *
        generalize hx_pc : x.pc = x_pc at *
        generalize hy_pc : y.pc = y_pc at *
        generalize hx_K : x.K = x_K at *
        generalize hy_K : y.K = y_K at *
        generalize hx_F : x.F = x_F at *
        generalize hy_F : y.F = y_F at *
        generalize hx_V : x.V = x_V at *
        generalize hy_V : y.V = y_V at *
        clear hx_pA hy_pA hx_pn hy_pn hx_pc hy_pc hx_K hy_K hx_F hy_F hx_V hy_V
        go_wp2_with fail
        rw [HE.out, Oper.upon_enter]
        (with_reducible refine HCL.out.mono ?_)
        rintro e w3 ⟨rfl, hb3⟩
        have HB3 := Lib.hid (HB1.out.trans (hb3.mono HB1.out.size))
        clear hb3
        cases d
        · go_wp2_with fail
          go_ret
          have hne : l.map π ≠ l'.map π := ne_of_at HX.out HY.out (of_decide_eq_false HD.out.symm)
          exact ⟨ret_b (by rw [decide_eq_false hne]), HB3.out⟩
        · go_wp2_with fail
          go_roundw
          case measure => simp [intOf]; omega
          case rel => exact ⟨k + 1, by omega, by go_num, Lib.hid (take_eq_succ HX.out HY.out HT.out (of_decide_eq_true HD.out.symm)), HB3⟩
      · obtain rfl : n = k := by omega
        go_wp2_with fail
        go_ret
        have h1 := HT.out
        rw [List.take_of_length_le (by rw [List.length_map, ← HK.out.len]; omega), List.take_of_length_le (by rw [List.length_map, ← HK'.out.len]; omega)] at h1
        exact ⟨ret_b (by simp [h1]), HW.out⟩
  · have t0 : ((n : Int) != n') = true := by simp; omega
    have HE : Hid (l.map π ≠ l'.map π) := Lib.hid (by
      intro e
      have := congrArg List.length e
      rw [List.length_map, List.length_map, ← h.len, ← h'.len] at this
      exact h0 this)
    clear h h' h0 hE
    go_enter Try.func79, Try.ntmps79
    go_wp2_with fail
    go_ret
    exact ⟨ret_b (by simp [HE.out]), Below.refl _ _⟩

set_option maxHeartbeats 800000 in
theorem clo143_any (wx : World) (x y : Cm) : Calls Try.prog 143 #[.agg #[.int .i64 x.k, .slice x.A x.n x.c], .agg #[.int .i64 y.k, .slice y.A y.n y.c]] wx fun e w' => e = .returned (.bool (decide (x.k = y.k))) ∧ Below wx.heap.size wx w' := by
  obtain ⟨xk, xA, xn, xc, xv⟩ := x
  obtain ⟨yk, yA, yn, yc, yv⟩ := y
  show Calls Try.prog 143 #[.agg #[.int .i64 xk, .slice xA xn xc], .agg #[.int .i64 yk, .slice yA yn yc]] wx fun e w' => e = .returned (.bool (decide (xk = yk))) ∧ Below wx.heap.size wx w'
  have HB1 : Hid (Below wx.heap.size wx ((wx.alloc (.cells #[.int .i64 xk, .slice xA xn xc] 166)).alloc (.cells #[.int .i64 yk, .slice yA yn yc] 166))) := Lib.hid (((Below.refl _ _).alloc (Nat.le_refl _) _).alloc (by simp) _)
  go_enter Try.func143, Try.ntmps143
  go_wp2_with fail
  go_ret
  exact ⟨rfl, HB1.out⟩

/-! ### Qf -/
theorem diffD_drop {b v : Blt} : ∀ {l r : List Blt} {k : Nat}, l[k]? = some b → r[k]? = some v → diffD (l.drop k) (r.drop k) = cmsD b.1 b.2 v.2 ++ diffD (l.drop (k + 1)) (r.drop (k + 1)) := by
  intro l r k h1 h2
  obtain ⟨p1, e1⟩ := List.getElem?_eq_some_iff.1 h1
  obtain ⟨p2, e2⟩ := List.getElem?_eq_some_iff.1 h2
  rw [List.drop_eq_getElem_cons p1, List.drop_eq_getElem_cons p2, e1, e2, diffD]
theorem diffD_end {l r : List Blt} {k : Nat} (h : l.length ≤ k) : diffD (l.drop k) (r.drop k) = [] := by
  rw [List.drop_of_length_le h]; cases List.drop k r <;> rfl
theorem map_k_of {l r : List Cm} (h : (l.map Cm.p).map shC = (r.map Cm.p).map shC) : l.map Cm.k = r.map Cm.k := by
  have := congrArg (List.map Prod.fst) h
  simpa [List.map_map, shC, Cm.p, Function.comp_def] using this

set_option maxHeartbeats 8000000 in
theorem diff_any {w : World} {B kn kc tn tc nn wn wc : Nat} {kA TA WA : Option Addr} {ks : List Kd} {ts : List Pf} {lw : List Bt} {H : List Blt} (hk : KsOk w B kA kn kc ks) (ht : PfsOk w B TA tn tc ts) (hv : TplV ks ts) (hn : nn < tn) (hw : BsOk w B WA wn wc lw)
    (hH : buildF (ks.map Kd.p) (ts.map Pf.p) 20 nn [] = (0, H)) (hsh : H.map shp = (lw.map Bt.p).map shp) (hpc : ∀ y ∈ lw, pcompF (ks.map Kd.p) none (y.cms.map Cm.p) = 0) (hval : ∀ y ∈ lw, ∀ d ∈ y.cms, ∀ v ∈ d.vals, (Lit.int .i64 v).wf = true) (hD : (diffD H (lw.map Bt.p)).length ≤ 40) :
    Calls Try.prog 62 #[.slice kA kn kc, .slice TA tn tc, .int .i64 nn, .slice WA wn wc] w fun e w' => Below w.heap.size w w' ∧ ∃ (A : Option Addr) (m c : Nat) (l : List Ov), e = .returned (.tuple #[.slice A m c, .int .i64 0]) ∧ Hid (OvI w' w.heap.size A m c l ∧ l.map Ov.p = diffD H (lw.map Bt.p)) := by
  obtain ⟨DD, hT⟩ : ∃ DD, DD = diffD H (lw.map Bt.p) := ⟨_, rfl⟩
  rw [← hT] at hD ⊢
  have hbl := pfbuild_any hk ht hv hn (oA := none) (on := 0) (oc := 0) (ovs := []) ⟨Rd.nil_ _, rfl, Nat.le_refl _, by omega, (fun x hx => by cases hx), hk.lo⟩
  rw [show ([] : List Ov).map Ov.p = [] from rfl, hH] at hbl
  have hpth := (buildF_both (ks.map Kd.p) (ts.map Pf.p) 20 nn []).2
  rw [hH] at hpth
  have HPTH := Lib.hid hpth
  have HBLD := Lib.hid hbl
  have hB := hk.lo
  have hwcap := hw.cap
  have hwcap2 := hw.cap2
  have HK := Lib.hid hk
  have HW := Lib.hid hw
  have HSH := Lib.hid hsh
  have HPC := Lib.hid hpc
  have HVL := Lib.hid hval
  have HT : Hid (DD = diffD (H.drop 0) ((lw.map Bt.p).drop 0)) := Lib.hid hT
  clear hk ht hv hn hw hH hsh hpc hval hT hbl hpth
  go_enter Try.func62, Try.ntmps62
  go_wp2_with fail
  (with_reducible refine HBLD.out.mono ?_)
  clear HBLD
  rintro e w1 ⟨hb1, hor⟩
  rcases hor with ⟨h0, _⟩ | ⟨_, SA, sn, sc, sub, rfl, HS⟩
  · exact absurd rfl h0
  · have HS : Hid (BuI w1 w.heap.size ks SA sn sc sub ∧ sub.map Bt.p = H) := HS
    have HB1 := Lib.hid hb1
    have hsw : sn = wn := by
      have h1 := congrArg List.length HSH.out
      rw [List.length_map, List.length_map, List.length_map, ← HS.out.2, List.length_map, ← HS.out.1.len, ← HW.out.len] at h1
      exact h1
    have hcp := own_cap2 HS.out.1.own
    subst hsw
    have hs1 := hcp.1
    have hs2 := hcp.2
    clear hb1 hcp
    go_wp2_with fail
    go_loopw [12, 37] (fun av iv wx => ∃ (i m3 c3 : Nat) (A3 : Option Addr), i ≤ sn ∧ iv = .int .i64 i ∧ av = .slice A3 m3 c3 ∧ m3 ≤ 40 ∧ Hid (∃ l3, OvI wx w.heap.size A3 m3 c3 l3 ∧ DD = l3.map Ov.p ++ diffD (H.drop i) ((lw.map Bt.p).drop i)) ∧ Hid (Below w.heap.size w wx) ∧ Hid (Kx 0 [158] w1 wx)) (fun _ iv _ => sn - (intOf iv).toNat)
    case atStart => exact ⟨0, 0, 0, none, Nat.zero_le _, rfl, rfl, Nat.zero_le _, Lib.hid ⟨[], ⟨World.ownsRow_nil _ _ _ _, rfl, (fun x hx => by cases hx)⟩, HT.out⟩, HB1, Lib.hid Kx.refl⟩
    case round =>
      clear HT HB1
      obtain ⟨i, m3, c3, A3, hi, rfl, rfl, hm3, HI, HWX, HX⟩ := hrel
      obtain ⟨l3, hI3, hT3⟩ := HI.out
      by_cases hlt : i < sn
      · have hiz : (i : Int) < sn := by omega
        have hiz0 : (0 : Int) ≤ i := by omega
        obtain ⟨x, hx⟩ : ∃ x, sub[i]? = some x := ⟨_, List.getElem?_eq_getElem (by have := HS.out.1.len; omega)⟩
        obtain ⟨y, hy⟩ : ∃ y, lw[i]? = some y := ⟨_, List.getElem?_eq_getElem (by have := HW.out.len; omega)⟩
        have hHx : H[i]? = some x.p := by rw [← HS.out.2, List.getElem?_map, hx]; rfl
        have hWy : (lw.map Bt.p)[i]? = some y.p := by rw [List.getElem?_map, hy]; rfl
        have hshp : shp x.p = shp y.p := by
          have h1 := congrArg (fun q => q[i]?) HSH.out
          simp only [List.getElem?_map] at h1
          rw [hHx] at h1
          rw [hy] at h1
          simpa using h1
        have hxy := (HS.out.1.ys.keep HX.out (by decide) (by decide)).ok x (List.mem_of_getElem? hx)
        obtain ⟨b, o, rfl, hbb, q0, q1⟩ := Rd.btS (HX.out.own HS.out.1.own (by decide)) hlt hx
        obtain ⟨W1, hW1⟩ : ∃ W1, W1 = wr.alloc (.cells #[.slice x.pA x.pn x.pc, .slice x.cA x.cn x.cc] 40) := ⟨_, rfl⟩
        obtain ⟨hb, hhe⟩ : ∃ hb, hb = wr.heap.size := ⟨_, rfl⟩
        have hb1 : Below wr.heap.size wr W1 := by rw [hW1]; exact (Below.refl _ _).alloc (Nat.le_refl _) _
        have hk1 : Kx 0 [] wr W1 := Kx.of_below hb1
        have hh1 : Bk W1 hb 40 #[.slice x.pA x.pn x.pc, .slice x.cA x.cn x.cc] := by rw [hW1, hhe]; exact Bk.new _ _ _
        have hBW1 : Below w.heap.size w W1 := HWX.out.trans (hb1.mono HWX.out.size)
        have HH1 := Lib.hid hh1
        have HB1 : Hid (Below w.heap.size w W1) := Lib.hid hBW1
        have HX1 : Hid (Kx 0 [158] w1 W1) := Lib.hid (HX.out.trans (hk1.mono (Nat.zero_le _) (by simp)))
        have HO1 : Hid (OvI W1 w.heap.size A3 m3 c3 l3) := Lib.hid (hI3.keep hk1 (by simp) (by simp))
        have hxy1 : BtY W1 w.heap.size x := hxy.keep hk1 (by simp) (by simp)
        have hpl : x.pn ≤ 20 := by rw [hxy.len]; exact HPTH.out x.p (List.mem_of_getElem? hHx)
        have hww := HW.out.below (hBW1.mono hB)
        obtain ⟨b2, o2, hA2, hbb2, r0, r1⟩ := hww.rd.bt hlt hy
        subst hA2
        have hyo := hww.ok y (List.mem_of_getElem? hy)
        have hbw1 : b2 < W1.heap.size := by have := hBW1.size; omega
        have hpe : x.path = y.path := congrArg Prod.fst hshp
        have HEQ : Hid (∀ wz, Below W1.heap.size W1 wz → Calls Try.prog 27 #[.slice x.pA x.pn x.pc, .slice y.pA y.pn y.pc] wz fun e w' => e = .returned (.bool true) ∧ ∃ m, wz.drewN m = w') := Lib.hid fun wz hz => by
          have h1 := equalInts_any x.pA y.pA x.pn x.pc y.pn y.pc W1.heap.size x.path y.path wz hxy1.len hyo.len (by omega) ((hxy1.rd.rd).below hz) ((hyo.rd.below (hz.mono (by have := hBW1.size; omega))).more (by have := hBW1.size; omega))
          rw [decide_eq_true hpe] at h1
          exact h1
        have HS5 : Hid (∀ wz, Below W1.heap.size W1 wz → wz.cell? ⟨hb, 0, none⟩ = some (.slice x.pA x.pn x.pc) ∧ wz.cell? ⟨hb, 1, none⟩ = some (.slice x.cA x.cn x.cc) ∧ wz.cell? ⟨b2, o2 + i * 2, none⟩ = some (.slice y.pA y.pn y.pc) ∧ wz.cell? ⟨b2, o2 + i * 2 + 1, none⟩ = some (.slice y.cA y.cn y.cc)) := Lib.hid fun wz hz =>
          ⟨(hh1.below hz hh1.lt).cell 0, (hh1.below hz hh1.lt).cell 1, (World.cell?_of_block (w := W1) (hz.block b2 hbw1)).trans r0, (World.cell?_of_block (w := W1) (hz.block b2 hbw1)).trans r1⟩
        have hTd := hT3
        rw [diffD_drop hHx hWy] at hTd
        have HTD : Hid (DD = l3.map Ov.p ++ (cmsD x.path (x.cms.map Cm.p) (y.cms.map Cm.p) ++ diffD (H.drop (i + 1)) ((lw.map Bt.p).drop (i + 1)))) := Lib.hid hTd
        have HXY := Lib.hid (And.intro hxy1 hpl)
        have HXX := Lib.hid (And.intro (List.mem_of_getElem? hx) (And.intro hy (And.intro (List.mem_of_getElem? hy) hshp)))
        have HW1 := Lib.hid (And.intro hW1 hhe)
        have hbsz := hBW1.size
        clear hx hy hHx hWy hshp hxy hbb hb1 hk1 hh1 hBW1 hxy1 hpl hww hbb2 r0 r1 hyo hpe hTd hT3 hI3 HI hW1 hhe
        have hyv : Hid ((∀ wz, Below W1.heap.size W1 wz → CsOk wz B y.cA y.cn y.cc y.cms) ∧ y.cn ≤ 9223372036854775807) := Lib.hid ⟨fun wz hz => by
          have h := (HW.out.below ((HB1.out.mono hB).trans (hz.mono (by omega)))).ok y HXX.out.2.2.1
          exact h.cs, by have h := (HW.out.ok y HXX.out.2.2.1).cs; exact Nat.le_trans h.cap h.cap2⟩
        have hxcn : x.cn ≤ 9223372036854775807 := Nat.le_trans HXY.out.1.cs.cap HXY.out.1.cs.cap2
        go_upto_region 9 with fail
        go_cut [13, 14] from 39 to 41 (fun s13 s14 wx => s13 = .int .i64 (i : Int) ∧ s14 = .pointer (some ⟨hb, 0, none⟩) ∧ wx = W1)
        case first =>
          go_wp2_with fail
          go_meet
          case rel => exact ⟨rfl, by rw [HW1.out.2], HW1.out.1.symm⟩
        case rest =>
          obtain ⟨rfl, rfl, rfl⟩ := hcut
          obtain ⟨W1, rfl⟩ : ∃ q, q = wc := ⟨_, rfl⟩
          clear q0 q1 HW1
          have s5 := HS5.out W1.drew (Below.refl _ _).drew
          obtain ⟨xpA, hxpA⟩ : ∃ q, q = x.pA := ⟨_, rfl⟩
          obtain ⟨xpn, hxpn⟩ : ∃ q, q = x.pn := ⟨_, rfl⟩
          obtain ⟨xpc, hxpc⟩ : ∃ q, q = x.pc := ⟨_, rfl⟩
          obtain ⟨xcA, hxcA⟩ : ∃ q, q = x.cA := ⟨_, rfl⟩
          obtain ⟨xcn, hxcn'⟩ : ∃ q, q = x.cn := ⟨_, rfl⟩
          obtain ⟨xcc, hxcc⟩ : ∃ q, q = x.cc := ⟨_, rfl⟩
          obtain ⟨ypA, hypA⟩ : ∃ q, q = y.pA := ⟨_, rfl⟩
          obtain ⟨ypn, hypn⟩ : ∃ q, q = y.pn := ⟨_, rfl⟩
          obtain ⟨ypc, hypc⟩ : ∃ q, q = y.pc := ⟨_, rfl⟩
          obtain ⟨ycA, hycA⟩ : ∃ q, q = y.cA := ⟨_, rfl⟩
          obtain ⟨ycn, hycn⟩ : ∃ q, q = y.cn := ⟨_, rfl⟩
          obtain ⟨ycc, hycc⟩ : ∃ q, q = y.cc := ⟨_, rfl⟩
          rw [← hxpA, ← hxpn, ← hxpc, ← hxcA, ← hxcn', ← hxcc, ← hypA, ← hypn, ← hypc, ← hycA, ← hycn, ← hycc] at HS5
          rw [← hxpA, ← hxpn, ← hxpc, ← hxcA, ← hxcn', ← hxcc, ← hypA, ← hypn, ← hypc, ← hycA, ← hycn, ← hycc] at s5
          rw [← hxpA, ← hxpn, ← hxpc, ← hypA, ← hypn, ← hypc] at HEQ
          rw [← hycA, ← hycn, ← hycc] at hyv
          rw [← hxpA, ← hxpn, ← hxpc, ← hxcA, ← hxcn', ← hxcc] at HH1
          have HXV := Lib.hid (And.intro hxpA (And.intro hxpn (And.intro hxpc (And.intro hxcA (And.intro hxcn' hxcc)))))
          clear hxpA hxpn hxpc hxcA hxcn' hxcc hypA hypn hypc hycA hycn hycc
          go_upto_region 10 with fail
          go_cut [50] from 42 to 49 (fun s50 wx => s50 = .bool false ∧ Hid (Below W1.heap.size W1 wx))
          case first =>
            refine wp_region_H (S := fun wz => wz.cell? ⟨hb, 0, none⟩ = some (.slice xpA xpn xpc) ∧ wz.cell? ⟨hb, 1, none⟩ = some (.slice xcA xcn xcc) ∧ wz.cell? ⟨b2, o2 + i * 2, none⟩ = some (.slice ypA ypn ypc) ∧ wz.cell? ⟨b2, o2 + i * 2 + 1, none⟩ = some (.slice ycA ycn ycc)) (by kernel_rfl) ?_
            refine wpAnyH_val (i := 0) (v := .pointer (some ⟨hb, 0, none⟩)) (d := some 42) rfl rfl (by kernel_rfl) (by kernel_rfl) (by kernel_rfl) (fun _ _ _ h => h) (Or.inl ⟨by rfl, fun w hS => by (obtain ⟨h0, h1, h2, h3⟩ := hS; go_simp)⟩) s5 ?_
            (try simp only [Act.put, List.setIfInBounds_toArray, List.set_cons_zero, List.set_cons_succ])
            refine wpAnyH_val (i := 1) (v := .slice xpA xpn xpc) (d := some 43) rfl rfl (by kernel_rfl) (by kernel_rfl) (by kernel_rfl) (fun _ _ _ h => h) (Or.inl ⟨by rfl, fun w hS => by (obtain ⟨h0, h1, h2, h3⟩ := hS; go_simp)⟩) s5 ?_
            (try simp only [Act.put, List.setIfInBounds_toArray, List.set_cons_zero, List.set_cons_succ])
            refine wpAnyH_val (i := 2) (v := .slice (some ⟨b2, o2, none⟩) sn wc) (d := some 44) rfl rfl (by kernel_rfl) (by kernel_rfl) (by kernel_rfl) (fun _ _ _ h => h) (Or.inl ⟨by rfl, fun w hS => by (obtain ⟨h0, h1, h2, h3⟩ := hS; go_simp)⟩) s5 ?_
            (try simp only [Act.put, List.setIfInBounds_toArray, List.set_cons_zero, List.set_cons_succ])
            refine wpAnyH_val (i := 3) (v := .int .i64 (i : Int)) (d := some 45) rfl rfl (by kernel_rfl) (by kernel_rfl) (by kernel_rfl) (fun _ _ _ h => h) (Or.inl ⟨by rfl, fun w hS => by (obtain ⟨h0, h1, h2, h3⟩ := hS; go_simp)⟩) s5 ?_
            (try simp only [Act.put, List.setIfInBounds_toArray, List.set_cons_zero, List.set_cons_succ])
            refine wpAnyH_val (i := 4) (v := .pointer (some ⟨b2, o2 + i * 2, none⟩)) (d := some 46) rfl rfl (by kernel_rfl) (by kernel_rfl) (by kernel_rfl) (fun _ _ _ h => h) (Or.inl ⟨by rfl, fun w hS => by (obtain ⟨h0, h1, h2, h3⟩ := hS; go_simp)⟩) s5 ?_
            (try simp only [Act.put, List.setIfInBounds_toArray, List.set_cons_zero, List.set_cons_succ])
            refine wpAnyH_val (i := 5) (v := .pointer (some ⟨b2, o2 + i * 2, none⟩)) (d := some 47) rfl rfl (by kernel_rfl) (by kernel_rfl) (by kernel_rfl) (fun _ _ _ h => h) (Or.inl ⟨by rfl, fun w hS => by (obtain ⟨h0, h1, h2, h3⟩ := hS; go_simp)⟩) s5 ?_
            (try simp only [Act.put, List.setIfInBounds_toArray, List.set_cons_zero, List.set_cons_succ])
            refine wpAnyH_val (i := 6) (v := .slice ypA ypn ypc) (d := some 48) rfl rfl (by kernel_rfl) (by kernel_rfl) (by kernel_rfl) (fun _ _ _ h => h) (Or.inl ⟨by rfl, fun w hS => by (obtain ⟨h0, h1, h2, h3⟩ := hS; go_simp)⟩) s5 ?_
            (try simp only [Act.put, List.setIfInBounds_toArray, List.set_cons_zero, List.set_cons_succ])
            refine wpAnyH_oneW (i := 7) rfl (by kernel_rfl) (by rfl) ?_
            go_simp
            go_at_call 27
            (with_reducible refine (HEQ.out _ (by first | exact Below.refl _ _ | exact (Below.refl _ _).drew)).mono ?_)
            rintro e w6 ⟨rfl, m6, rfl⟩
            have hB6 : Below W1.heap.size W1 (W1.drew.drewN m6) := below_dn (Below.refl _ _).drew m6
            have s6 := HS5.out _ hB6
            refine And.intro s6 ?_
            (try simp only [Act.put, List.setIfInBounds_toArray, List.set_cons_zero, List.set_cons_succ])
            refine wpAnyH_val (i := 8) (v := .bool false) (d := some 50) rfl rfl (by kernel_rfl) (by kernel_rfl) (by kernel_rfl) (fun _ _ _ h => h) (Or.inl ⟨by rfl, fun w hS => by (obtain ⟨h0, h1, h2, h3⟩ := hS; go_simp)⟩) s6 ?_
            (try simp only [Act.put, List.setIfInBounds_toArray, List.set_cons_zero, List.set_cons_succ])
            refine wpAnyH_done (by kernel_rfl) ?_ _
            go_wp2_with fail
            go_meet
            case rel => exact ⟨rfl, Lib.hid hB6⟩
          case rest =>
            obtain ⟨rfl, HB2⟩ := hcut
            obtain ⟨W2, rfl⟩ : ∃ q, q = wc := ⟨_, rfl⟩
            clear s5
            have s6 := (HS5.out W2 HB2.out).2.2.2
            have HCP : Hid (Calls Try.prog 141 #[.slice kA kn kc, .slice ycA ycn ycc] W2 fun e w' => e = .returned (.int .i64 0) ∧ Below W2.heap.size W2 w') := Lib.hid (by
              have hbw := (HB1.out.mono hB).trans (HB2.out.mono (by omega))
              have h := pcomps_any (HK.out.below hbw) (hyv.out.1 W2 HB2.out)
              rw [HPC.out y HXX.out.2.2.1] at h
              exact h)
            have hW12 : W1.heap.size ≤ W2.heap.size := HB2.out.size
            go_wp2_with fail
            (with_reducible refine HCP.out.mono ?_)
            rintro e w3 ⟨rfl, hb3⟩
            obtain ⟨W3, rfl⟩ : ∃ q, q = w3 := ⟨_, rfl⟩
            have hb13 : Below W1.heap.size W1 W3 := HB2.out.trans (hb3.mono hW12)
            have HB3 := Lib.hid hb13
            have hW13 : W1.heap.size ≤ W3.heap.size := hb13.size
            clear hb3 s6 HCP HEQ
            have HS7 : Hid (∀ wz, Below W3.heap.size W3 wz → wz.cell? ⟨hb, 0, none⟩ = some (.slice xpA xpn xpc) ∧ wz.cell? ⟨hb, 1, none⟩ = some (.slice xcA xcn xcc) ∧ wz.cell? ⟨b2, o2 + i * 2, none⟩ = some (.slice ypA ypn ypc) ∧ wz.cell? ⟨b2, o2 + i * 2 + 1, none⟩ = some (.slice ycA ycn ycc)) := Lib.hid fun wz hz => HS5.out wz (hb13.trans (hz.mono hW13))
            have s7 := HS7.out W3.drew (Below.refl _ _).drew
            have HEF : Hid (∀ wz, Below W3.heap.size W3 wz → Calls Try.prog 142 #[.slice xcA xcn xcc, .slice ycA ycn ycc, .func (.func 143) #[] #[]] wz fun e w' => e = .returned (.bool true) ∧ Below wz.heap.size wz w') := Lib.hid fun wz hz => by
              have hz1 := hb13.trans (hz.mono hW13)
              have hxc : CsOk wz wz.heap.size x.cA x.cn x.cc x.cms := (HXY.out.1.cs.keep (F := []) (Kx.of_below (B := 0) hz1) (by simp) (by simp)).okB
              rw [← HXV.out.2.2.2.1, ← HXV.out.2.2.2.2.1, ← HXV.out.2.2.2.2.2] at hxc
              have h := eqFuncCm_any (F := 143) Cm.k enters143 hxc (hyv.out.1 wz hz1) (fun wx c d _ _ _ _ _ _ => clo143_any wx c d)
              rw [decide_eq_true (map_k_of (shp_eq HXX.out.2.2.2).2)] at h
              exact h
            clear hb13
            go_upto_region 15 with fail
            go_cut [69] from 61 to 68 (fun s69 wx => s69 = .bool false ∧ Hid (Below W3.heap.size W3 wx))
            case first =>
              refine wp_region_H (S := fun wz => wz.cell? ⟨hb, 0, none⟩ = some (.slice xpA xpn xpc) ∧ wz.cell? ⟨hb, 1, none⟩ = some (.slice xcA xcn xcc) ∧ wz.cell? ⟨b2, o2 + i * 2, none⟩ = some (.slice ypA ypn ypc) ∧ wz.cell? ⟨b2, o2 + i * 2 + 1, none⟩ = some (.slice ycA ycn ycc)) (by kernel_rfl) ?_
              refine wpAnyH_val (i := 0) (v := .pointer (some ⟨hb, 1, none⟩)) (d := some 61) rfl rfl (by kernel_rfl) (by kernel_rfl) (by kernel_rfl) (fun _ _ _ h => h) (Or.inl ⟨by rfl, fun w hS => by (obtain ⟨h0, h1, h2, h3⟩ := hS; go_simp)⟩) s7 ?_
              (try simp only [Act.put, List.setIfInBounds_toArray, List.set_cons_zero, List.set_cons_succ])
              refine wpAnyH_val (i := 1) (v := .slice xcA xcn xcc) (d := some 62) rfl rfl (by kernel_rfl) (by kernel_rfl) (by kernel_rfl) (fun _ _ _ h => h) (Or.inl ⟨by rfl, fun w hS => by (obtain ⟨h0, h1, h2, h3⟩ := hS; go_simp)⟩) s7 ?_
              (try simp only [Act.put, List.setIfInBounds_toArray, List.set_cons_zero, List.set_cons_succ])
              refine wpAnyH_val (i := 2) (v := .slice (some ⟨b2, o2, none⟩) sn wc) (d := some 63) rfl rfl (by kernel_rfl) (by kernel_rfl) (by kernel_rfl) (fun _ _ _ h => h) (Or.inl ⟨by rfl, fun w hS => by (obtain ⟨h0, h1, h2, h3⟩ := hS; go_simp)⟩) s7 ?_
              (try simp only [Act.put, List.setIfInBounds_toArray, List.set_cons_zero, List.set_cons_succ])
              refine wpAnyH_val (i := 3) (v := .int .i64 (i : Int)) (d := some 64) rfl rfl (by kernel_rfl) (by kernel_rfl) (by kernel_rfl) (fun _ _ _ h => h) (Or.inl ⟨by rfl, fun w hS => by (obtain ⟨h0, h1, h2, h3⟩ := hS; go_simp)⟩) s7 ?_
              (try simp only [Act.put, List.setIfInBounds_toArray, List.set_cons_zero, List.set_cons_succ])
              refine wpAnyH_val (i := 4) (v := .pointer (some ⟨b2, o2 + i * 2, none⟩)) (d := some 65) rfl rfl (by kernel_rfl) (by kernel_rfl) (by kernel_rfl) (fun _ _ _ h => h) (Or.inl ⟨by rfl, fun w hS => by (obtain ⟨h0, h1, h2, h3⟩ := hS; go_simp)⟩) s7 ?_
              (try simp only [Act.put, List.setIfInBounds_toArray, List.set_cons_zero, List.set_cons_succ])
              refine wpAnyH_val (i := 5) (v := .pointer (some ⟨b2, o2 + i * 2 + 1, none⟩)) (d := some 66) rfl rfl (by kernel_rfl) (by kernel_rfl) (by kernel_rfl) (fun _ _ _ h => h) (Or.inl ⟨by rfl, fun w hS => by (obtain ⟨h0, h1, h2, h3⟩ := hS; go_simp)⟩) s7 ?_
              (try simp only [Act.put, List.setIfInBounds_toArray, List.set_cons_zero, List.set_cons_succ])
              refine wpAnyH_val (i := 6) (v := .slice ycA ycn ycc) (d := some 67) rfl rfl (by kernel_rfl) (by kernel_rfl) (by kernel_rfl) (fun _ _ _ h => h) (Or.inl ⟨by rfl, fun w hS => by (obtain ⟨h0, h1, h2, h3⟩ := hS; go_simp)⟩) s7 ?_
              (try simp only [Act.put, List.setIfInBounds_toArray, List.set_cons_zero, List.set_cons_succ])
              refine wpAnyH_oneW (i := 7) rfl (by kernel_rfl) (by rfl) ?_
              go_simp
              go_at_call 142
              (with_reducible refine (HEF.out _ (by first | exact Below.refl _ _ | exact (Below.refl _ _).drew)).mono ?_)
              rintro e w6 ⟨rfl, hb6⟩
              have hB6 : Below W3.heap.size W3 w6 := by first | exact hb6 | exact (Below.refl _ _).drew.trans hb6
              have s8 := HS7.out _ hB6
              refine And.intro s8 ?_
              (try simp only [Act.put, List.setIfInBounds_toArray, List.set_cons_zero, List.set_cons_succ])
              refine wpAnyH_val (i := 8) (v := .bool false) (d := some 69) rfl rfl (by kernel_rfl) (by kernel_rfl) (by kernel_rfl) (fun _ _ _ h => h) (Or.inl ⟨by rfl, fun w hS => by (obtain ⟨h0, h1, h2, h3⟩ := hS; go_simp)⟩) s8 ?_
              (try simp only [Act.put, List.setIfInBounds_toArray, List.set_cons_zero, List.set_cons_succ])
              refine wpAnyH_done (by kernel_rfl) ?_ _
              go_wp2_with fail
              go_meet
              case rel => exact ⟨rfl, Lib.hid hB6⟩
            case rest =>
              obtain ⟨rfl, HB4⟩ := hcut
              obtain ⟨W4, rfl⟩ : ∃ q, q = wc := ⟨_, rfl⟩
              have hb14 : Below W1.heap.size W1 W4 := HB3.out.trans (HB4.out.mono hW13)
              have hk14 : Kx 0 [] W1 W4 := Kx.of_below hb14
              have HX4 : Hid (Kx 0 [158] w1 W4) := Lib.hid (HX1.out.trans (hk14.mono (Nat.zero_le _) (by simp)))
              have HB14 : Hid (Below w.heap.size w W4) := Lib.hid (HB1.out.trans (hb14.mono hbsz))
              have HO4 : Hid (OvI W4 w.heap.size A3 m3 c3 l3) := Lib.hid (HO1.out.keep hk14 (by simp) (by simp))
              have HH4 : Hid (Bk W4 hb 40 #[.slice x.pA x.pn x.pc, .slice x.cA x.cn x.cc]) := Lib.hid (by rw [← HXV.out.1, ← HXV.out.2.1, ← HXV.out.2.2.1, ← HXV.out.2.2.2.1, ← HXV.out.2.2.2.2.1, ← HXV.out.2.2.2.2.2]; exact hk14.bk HH1.out (by simp))
              have HXY4 : Hid (BtY W4 w.heap.size x) := Lib.hid (HXY.out.1.keep hk14 (by simp) (by simp))
              have hpl := HXY.out.2
              clear s7 HS7 HS5 hb14 hk14 HEF
              go_step
              go_step
              go_step
              go_step
              go_step
              refine dfComps_any HW.out HXX.out.2.1 (shp_eq HXX.out.2.2.2).2 (fun d hd => HVL.out y HXX.out.2.2.1 d hd) (fun c hc => (HS.out.1.kok x HXX.out.1 c hc).2) HB14.out HH4.out HXY4.out.rd HXY4.out.len (by omega) HXY4.out.cap HXY4.out.cap2 HXY4.out.cs HO4.out ?_ ?_
              · have h := HTD.out
                rw [h, ← List.append_assoc, List.length_append] at hD
                exact Nat.le_trans (Nat.le_add_right _ _) hD
              · intros
                rename_i OA' m' oc' out' w' HR
                obtain ⟨w5, rfl⟩ : ∃ q, q = w' := ⟨_, rfl⟩
                have HN5 : Hid (∃ l3, OvI w5 w.heap.size OA' m' oc' l3 ∧ DD = l3.map Ov.p ++ diffD (H.drop (i + 1)) ((lw.map Bt.p).drop (i + 1))) := Lib.hid ⟨out', HR.out.2.2.1, by rw [HR.out.2.2.2, HTD.out, List.append_assoc]⟩
                have HB5 : Hid (Below w.heap.size w w5) := Lib.hid HR.out.1
                have HX5 : Hid (Kx 0 [158] w1 w5) := Lib.hid (HX4.out.trans HR.out.2.1)
                have hm5 : m' ≤ 40 := by
                  have h1 := HR.out.2.2.1.len
                  have h2 := HR.out.2.2.2
                  have h3 := HTD.out
                  rw [← List.append_assoc, ← h2] at h3
                  rw [h3, List.length_append, List.length_map] at hD
                  omega
                clear HR HTD
                go_wp2_with fail
                go_roundw
                case measure => simp [intOf]; omega
                case rel => exact ⟨i + 1, m', oc', OA', by omega, by go_num, rfl, hm5, HN5, HB5, HX5⟩
      · obtain rfl : i = sn := by omega
        have HP : Hid (Below w.heap.size w wr ∧ OvI wr w.heap.size A3 m3 c3 l3 ∧ l3.map Ov.p = DD) := Lib.hid ⟨HWX.out, hI3, by
          have hl : H.length ≤ i := by rw [← HS.out.2, List.length_map, ← HS.out.1.len]; exact Nat.le_refl _
          rw [hT3, diffD_end hl, List.append_nil]⟩
        clear hI3 hT3
        go_wp2_with fail
        go_ret2
        exact ⟨HP.out.1, A3, m3, c3, l3, rfl, Lib.hid HP.out.2⟩
end Go.Proofs.Ytnidcmhfbkdioaa
