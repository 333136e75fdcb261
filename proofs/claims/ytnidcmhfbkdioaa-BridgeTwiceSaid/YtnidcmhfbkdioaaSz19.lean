/-
  Lemmas for the walk, merged (Cc Mu Cd Ce). No condition but those in each statement.
-/
import Derived.Lib.SliceRun
import Derived.Test.YtnidcmhfbkdioaaSz18
import Derived.Test.YtnidcmhfbkdioaaSz16
import Derived.Test.YtnidcmhfbkdioaaSz9
import Derived.Test.YtnidcmhfbkdioaaSz11
namespace Go.Proofs.Ytnidcmhfbkdioaa
/-! ### Cc -/
open Go.RowKit
set_option maxRecDepth 100000
noncomputable def vdKinds : Code := (Try.f54.body.bind (blkN 2)).getD .skip
set_option maxHeartbeats 16000000 in
theorem vdKinds_any {x0 x1 x2 x3 x4 x6 x7 x9 x10 x11 x12 x13 x14 x15 x16 x17 x18 x19 x20 x21 x22 x23 x24 x25 x26 x27 x28 x29 x30 x31 x32 x33 x34 x35 x36 x37 x38 x39 x40 x41 x42 x43 x47 x48 x49 x50 x51 x52 x53 x54 x55 x56 x57 x58 x59 x60 x61 x62 x63 x64 x65 x66 x67 x68 x69 x70 x71 x72 x73 x74 x75 x76 x77 x78 x79 x80 x81 x82 x83 x84 x85 x86 x87 x88 x89 x90 x91 x92 x93 x94 x95 x96 x97 x98 x99 x100 x101 x102 x103 x104 x105 x106 x107 x108 : Value} {Q : Exit → Act → World → Prop} {wI w0 : World} {B base s hi kn kc : Nat} {kA : Option Addr} {ks : List Kd} {e g : Int}
    (hk : KsY w0 0 kA kn kc ks) (hone : ∀ k ∈ ks, oneF k.nm k.fds = 0) (hpl : ∀ k ∈ ks, k.nm = kn_p → k.fds = kf_p) (hI : VkI w0 wI B base s hi e g none 0 0 [])
    (hB : B ≤ s) (hBb : B ≤ base) (hbI : wI.heap.size ≤ base) (hhi : base ≤ hi) (hb0 : base ≤ w0.heap.size) (hn : kn ≤ 16)
    (hN : ∀ (y9 y10 y11 y13 y46 y47 y48 y49 y50 y51 y52 y53 y54 y55 y56 y57 y58 y59 y60 y61 y62 y63 y64 y65 y66 y67 y68 y69 y70 y71 y72 y73 y74 y75 y76 y77 y78 y79 y80 y81 y82 y83 y84 y85 y86 y87 y88 y89 y90 y91 y92 y93 y94 y95 y96 y97 y98 y99 y100 : Value) (CA : Option Addr) (q cc : Nat) (l1 : List Cm) (w' : World), Hid (q ≤ kn ∧ VkI w' wI B base s hi e g CA q cc l1 ∧ VCs holdK (ks.map Kd.p) (l1.map Cm.p) ∧ KsY w' 0 kA kn kc ks) → Q .normal ⟨#[x0, x1, x2, x3, x4, .pointer (some ⟨s, 0, none⟩), x6, x7, .pointer (some ⟨hi, 0, none⟩), y9, y10, y11, x12, y13, x14, x15, x16, x17, x18, x19, x20, x21, x22, x23, x24, x25, x26, x27, x28, x29, x30, x31, x32, x33, x34, x35, x36, x37, x38, x39, x40, x41, x42, x43, .slice kA kn kc, .int .i64 (kn : Int), y46, y47, y48, y49, y50, y51, y52, y53, y54, y55, y56, y57, y58, y59, y60, y61, y62, y63, y64, y65, y66, y67, y68, y69, y70, y71, y72, y73, y74, y75, y76, y77, y78, y79, y80, y81, y82, y83, y84, y85, y86, y87, y88, y89, y90, y91, y92, y93, y94, y95, y96, y97, y98, y99, y100, x101, x102, x103, x104, x105, x106, x107, x108], []⟩ w') :
    Code.wp Try.prog vdKinds Q ⟨#[x0, x1, x2, x3, x4, .pointer (some ⟨s, 0, none⟩), x6, x7, .pointer (some ⟨hi, 0, none⟩), x9, x10, x11, x12, x13, x14, x15, x16, x17, x18, x19, x20, x21, x22, x23, x24, x25, x26, x27, x28, x29, x30, x31, x32, x33, x34, x35, x36, x37, x38, x39, x40, x41, x42, x43, .slice kA kn kc, .int .i64 (kn : Int), .int .i64 0, x47, x48, x49, x50, x51, x52, x53, x54, x55, x56, x57, x58, x59, x60, x61, x62, x63, x64, x65, x66, x67, x68, x69, x70, x71, x72, x73, x74, x75, x76, x77, x78, x79, x80, x81, x82, x83, x84, x85, x86, x87, x88, x89, x90, x91, x92, x93, x94, x95, x96, x97, x98, x99, x100, x101, x102, x103, x104, x105, x106, x107, x108], []⟩ w0 := by
  conv => arg 2; whnf
  have HK := Lib.hid hk
  have HON := Lib.hid hone
  have HPL := Lib.hid hpl
  have HI := Lib.hid hI
  have hcap := hk.cap
  have hcap2 := hk.cap2
  have HLK : Hid (kn = ks.length) := Lib.hid hk.len
  clear hk hone hpl hI
  go_wp2_with fail
  go_loopw [46] (fun jv wx => ∃ (i q cc : Nat) (CA : Option Addr) (l1 : List Cm), i ≤ kn ∧ q ≤ i ∧ jv = .int .i64 i ∧ Hid (VkI wx wI B base s hi e g CA q cc l1 ∧ CwI holdK (ks.map Kd.p) i (l1.map Cm.p) ∧ KsY wx 0 kA kn kc ks ∧ base ≤ wx.heap.size)) (fun jv _ => kn - (intOf jv).toNat)
  case atStart => exact ⟨0, 0, 0, none, [], Nat.zero_le _, Nat.le_refl _, rfl, Lib.hid ⟨HI.out, CwI.zero, HK.out, hb0⟩⟩
  case round =>
    obtain ⟨i, q, cc, CA, l1, hile, hqi, rfl, HV⟩ := hrel
    by_cases hlt : i < kn
    · obtain ⟨k, hk⟩ : ∃ k, ks[i]? = some k := ⟨_, List.getElem?_eq_getElem (by have := HLK.out; omega)⟩
      have hiz : (i : Int) < kn := by omega
      have HKK := Lib.hid hk
      have HO1 := Lib.hid (HON.out k (List.mem_of_getElem? hk))
      have HP1 := Lib.hid (HPL.out k (List.mem_of_getElem? hk))
      clear hk
      go_upto_if 47 with fail
      first
        | (go_step; refine vdKind_any HV.out.2.2.1 HKK.out HO1.out HP1.out HV.out.1 hB hBb hbI hhi (by omega) HV.out.2.2.2 (by omega) ?_ ?_)
        | (go_step; go_step; refine vdKind_any HV.out.2.2.1 HKK.out HO1.out HP1.out HV.out.1 hB hBb hbI hhi (by omega) HV.out.2.2.2 (by omega) ?_ ?_)
        | (go_step; go_step; go_step; refine vdKind_any HV.out.2.2.1 HKK.out HO1.out HP1.out HV.out.1 hB hBb hbI hhi (by omega) HV.out.2.2.2 (by omega) ?_ ?_)
        | (go_step; go_step; go_step; go_step; refine vdKind_any HV.out.2.2.1 HKK.out HO1.out HP1.out HV.out.1 hB hBb hbI hhi (by omega) HV.out.2.2.2 (by omega) ?_ ?_)
        | (go_step; go_step; go_step; go_step; go_step; refine vdKind_any HV.out.2.2.1 HKK.out HO1.out HP1.out HV.out.1 hB hBb hbI hhi (by omega) HV.out.2.2.2 (by omega) ?_ ?_)
      · intros
        rename_i w7 H7
        have HVN : Hid (VkI w7 wI B base s hi e g CA q cc l1 ∧ CwI holdK (ks.map Kd.p) (i + 1) (l1.map Cm.p) ∧ KsY w7 0 kA kn kc ks ∧ base ≤ w7.heap.size) := Lib.hid ⟨H7.out.1, HV.out.2.1.skip, HV.out.2.2.1.keep (Kx.fq (B' := 0) H7.out.2 HV.out.1.st (Nat.zero_le _)) (by decide) (by decide), Nat.le_trans HV.out.2.2.2 H7.out.2.size⟩
        clear HV H7
        go_wp2_with fail
        go_roundw
        case rel => exact ⟨i + 1, q, cc, CA, l1, by omega, by omega, by go_num, HVN⟩
        case measure => simp [intOf]; omega
      · intros
        rename_i vs VA vc gA cA w7 H7
        have HVN : Hid (VkI w7 wI B base s hi e g (some ⟨gA, 0, none⟩) (q + 1) cA (l1 ++ [(⟨i, VA, vs.length, vc, vs⟩ : Cm)]) ∧ CwI holdK (ks.map Kd.p) (i + 1) ((l1 ++ [(⟨i, VA, vs.length, vc, vs⟩ : Cm)]).map Cm.p) ∧ KsY w7 0 kA kn kc ks ∧ base ≤ w7.heap.size) := Lib.hid ⟨H7.out.2.1, by
          rw [List.map_append]
          exact HV.out.2.1.keep (d := k.p) (by rw [List.getElem?_map, HKK.out]; rfl) H7.out.1, H7.out.2.2, by have h1 := H7.out.2.1.it.lt; omega⟩
        clear HV H7
        go_wp2_with fail
        go_roundw
        case rel => exact ⟨i + 1, q + 1, cA, some ⟨gA, 0, none⟩, l1 ++ [(⟨i, VA, vs.length, vc, vs⟩ : Cm)], by omega, by omega, by go_num, HVN⟩
        case measure => simp [intOf]; omega
    · obtain rfl : kn = i := by omega
      have HR : Hid (q ≤ kn ∧ VkI wr wI B base s hi e g CA q cc l1 ∧ VCs holdK (ks.map Kd.p) (l1.map Cm.p) ∧ KsY wr 0 kA kn kc ks) := Lib.hid ⟨hqi, HV.out.1, CwI.done HV.out.2.1, HV.out.2.2.1⟩
      clear HV
      go_wp2_with fail
      (try simp only [Exit.inBlock, Exit.then])
      first
        | exact HR
        | exact hN _ _ _ _ _ _ _ _ _ _ _ _ _ _ _ _ _ _ _ _ _ _ _ _ _ _ _ _ _ _ _ _ _ _ _ _ _ _ _ _ _ _ _ _ _ _ _ _ _ _ _ _ _ _ _ _ _ _ _ CA q cc l1 _ HR
/-! ### Mu -/
/-- The frame of a world that is made. -/
structure WI (r ho base : Nat) (wr : World) (kA : Option Addr) (kn kc : Nat) (ks : List Kd) (GA : Option Addr) (n gc : Nat) (G : List Int) (IA : Option Addr) (q ic : Nat) (its : List It) : Prop where
  bR : Bk wr r 52 #[.slice none 0 0, .slice none 0 0, .slice none 0 0]
  bo : Bk wr ho 52 #[.slice kA kn kc, .slice GA n gc, .slice IA q ic]
  ks : KsY wr 0 kA kn kc ks
  gown : wr.ownsRow base 3 1 (.slice GA n gc) n (G.map (Value.int .i64))
  iown : wr.ownsRow base 147 3 (.slice IA q ic) q (itCs its)
  len : q = its.length
  iok : ∀ it ∈ its, ItY wr 0 it
  nob : ∀ it ∈ its, NoB (Value.slice GA n gc).ownBlock it.cms
  hro : r < ho
section
variable {r ho base : Nat} {wr w' : World} {kA : Option Addr} {kn kc : Nat} {ks : List Kd} {GA : Option Addr} {n gc : Nat} {G : List Int} {IA : Option Addr} {q ic : Nat} {its : List It}
theorem WI.kx {B : Nat} {F : List TypeId} (H : WI r ho base wr kA kn kc ks GA n gc G IA q ic its) (hq : Kx B F wr w') (h52 : (52 : TypeId) ∉ F) (h63 : (63 : TypeId) ∉ F) (h66 : (66 : TypeId) ∉ F) (h3 : (3 : TypeId) ∉ F) (h147 : (147 : TypeId) ∉ F) (h166 : (166 : TypeId) ∉ F) : WI r ho base w' kA kn kc ks GA n gc G IA q ic its :=
  ⟨hq.bk H.bR h52, hq.bk H.bo h52, H.ks.keep (hq.mono (Nat.zero_le _) (fun _ h => h)) h66 h63, hq.own H.gown h3, hq.own H.iown h147, H.len, fun it hit => (H.iok it hit).keep (hq.mono (Nat.zero_le _) (fun _ h => h)) h3 h166, H.nob, H.hro⟩
theorem WI.item (H : WI r ho base wr kA kn kc ks GA n gc G IA q ic its) {w8 : World} {g8 c8 : Nat} {it : It} {o : Obj} (hi : ItY wr 0 it) (hno : NoB (Value.slice GA n gc).ownBlock it.cms)
    (hown8 : w8.ownsRow base 147 3 (.slice (some ⟨g8, 0, none⟩) (q + 1) c8) (q + 1) (itCs its ++ [.int .i64 it.e, .int .i64 it.g, .slice it.A it.n it.c])) (hg8 : (wr.alloc o).grownBy w8 (Value.slice IA q ic).ownBlock) :
    WI r ho base (w8.setCell ⟨ho, 2, none⟩ (.slice (some ⟨g8, 0, none⟩) (q + 1) c8)) kA kn kc ks GA n gc G (some ⟨g8, 0, none⟩) (q + 1) c8 (its ++ [it]) ∧ Kx 0 [147, 52] wr (w8.setCell ⟨ho, 2, none⟩ (.slice (some ⟨g8, 0, none⟩) (q + 1) c8)) := by
  have hq7 : Kx 0 [147] wr w8 := ((Kx.refl (B := 0)).alloc _).grown (H.iown.alloc _) hg8 (Nat.zero_le _) (by simp)
  have bo := hq7.bk H.bo (by decide)
  have hset : Kx 0 [52] w8 (w8.setCell ⟨ho, 2, none⟩ (.slice (some ⟨g8, 0, none⟩) (q + 1) c8)) := Kx.set Kx.refl bo (Nat.zero_le _) (by simp) 2 _
  have hh := H.hro
  refine ⟨⟨(hq7.bk H.bR (by decide)).far (p := ⟨ho, 2, none⟩) (by show r ≠ ho; omega) _, by simpa using bo.set_ 2 (.slice (some ⟨g8, 0, none⟩) (q + 1) c8),
    (H.ks.keep hq7 (by decide) (by decide)).keep hset (by decide) (by decide), hset.own (hq7.own H.gown (by decide)) (by decide), ?_, by simp [H.len], fun x hx => ?_, fun x hx => ?_, H.hro⟩, (hq7.mono (Nat.le_refl _) (by simp)).trans (hset.mono (Nat.le_refl _) (by simp))⟩
  · rw [itCs_snoc]; exact hset.own hown8 (by decide)
  · rcases List.mem_append.1 hx with hx | hx
    · exact ((H.iok x hx).keep hq7 (by decide) (by decide)).keep hset (by decide) (by decide)
    · rw [show x = it by simpa using hx]; exact (hi.keep hq7 (by decide) (by decide)).keep hset (by decide) (by decide)
  · rcases List.mem_append.1 hx with hx | hx
    · exact H.nob x hx
    · rw [show x = it by simpa using hx]; exact hno
theorem WI.gen (H : WI r ho base wr kA kn kc ks GA n gc G IA q ic its) {w9 : World} {g9 c9 : Nat} {gg : Int} {o : Obj}
    (hown9 : w9.ownsRow base 3 1 (.slice (some ⟨g9, 0, none⟩) (n + 1) c9) (n + 1) (G.map (Value.int .i64) ++ [.int .i64 gg])) (hg9 : (wr.alloc o).grownBy w9 (Value.slice GA n gc).ownBlock) (hat : (Value.slice GA n gc).ownBlock = some g9 ∨ g9 = (wr.alloc o).heap.size) :
    WI r ho base (w9.setCell ⟨ho, 1, none⟩ (.slice (some ⟨g9, 0, none⟩) (n + 1) c9)) kA kn kc ks (some ⟨g9, 0, none⟩) (n + 1) c9 (G ++ [gg]) IA q ic its ∧ Kx 0 [3, 52] wr (w9.setCell ⟨ho, 1, none⟩ (.slice (some ⟨g9, 0, none⟩) (n + 1) c9)) := by
  have hal : Kx 0 [3] wr (wr.alloc o) := (Kx.refl (B := 0)).alloc _
  have hq7 : Kx 0 [3] wr w9 := hal.grown (H.gown.alloc _) hg9 (Nat.zero_le _) (by simp)
  have bo := hq7.bk H.bo (by decide)
  have hset : Kx 0 [52] w9 (w9.setCell ⟨ho, 1, none⟩ (.slice (some ⟨g9, 0, none⟩) (n + 1) c9)) := Kx.set Kx.refl bo (Nat.zero_le _) (by simp) 1 _
  have hh := H.hro
  have hal0 : Kx 0 [] wr (wr.alloc o) := (Kx.refl (B := 0)).alloc _
  refine ⟨⟨(hq7.bk H.bR (by decide)).far (p := ⟨ho, 1, none⟩) (by show r ≠ ho; omega) _, by simpa using bo.set_ 1 (.slice (some ⟨g9, 0, none⟩) (n + 1) c9),
    (H.ks.keep hq7 (by decide) (by decide)).keep hset (by decide) (by decide), ?_, hset.own (hq7.own H.iown (by decide)) (by decide), H.len, fun x hx => ?_, fun x hx => ?_, H.hro⟩, (hq7.mono (Nat.le_refl _) (by simp)).trans (hset.mono (Nat.le_refl _) (by simp))⟩
  · rw [List.map_append]; exact hset.own hown9 (by decide)
  · exact (((H.iok x hx).keep hal0 (by simp) (by simp)).grown3 (H.gown.alloc _) hg9 (Nat.zero_le _) (H.nob x hx)).keep hset (by decide) (by decide)
  · refine NoB.grown ((H.iok x hx).keep hal0 (by simp) (by simp)) (H.nob x hx) ?_
    rcases hat with h1 | h1
    · exact .inl h1.symm
    · exact .inr (by rw [h1]; rfl)
end
/-! ### Cd -/
set_option maxHeartbeats 16000000 in
theorem kworld_any (A : Option Addr) (n c B : Nat) (zs : List Int) (w : World) {kA sA pA : Option Addr} {kn kc sn sc pn pc : Nat} {g0 g1 g2 g3 g4 g5 : Int} {ks : List Kd} (hr : Rd w B 1 A n (zs.map (Value.int .i64))) (hn : n = zs.length) (hnc : n ≤ c) (hc : c ≤ 9223372036854775807) (hz : ∀ z ∈ zs, (Lit.int .i64 z).wf = true) (hB : B ≤ w.heap.size)
    (hk : KsY w 0 kA kn kc ks) (hone : ∀ k ∈ ks, oneF k.nm k.fds = 0) (hpl : ∀ k ∈ ks, k.nm = kn_p → k.fds = kf_p) (hkn : kn ≤ 16) :
    Calls Try.prog 54 #[.agg #[.slice kA kn kc, .slice sA sn sc, .slice pA pn pc, .int .i64 g0, .int .i64 g1, .int .i64 g2, .int .i64 g3, .int .i64 g4, .int .i64 g5], .slice A n c] w fun e w' => ∃ y : Wd, e = .returned y.v ∧ Hid ((WdY w' 0 y ∧ VW holdK y.p) ∧ y.kA = kA ∧ y.kn = kn ∧ y.kc = kc ∧ y.ks = ks ∧ y.its.length ≤ 5 ∧ y.gens.length ≤ 5) ∧ Below w.heap.size w w' := by
  obtain ⟨W0, hW0⟩ : ∃ W0, W0 = (((w.alloc (.cells #[.slice kA kn kc, .slice sA sn sc, .slice pA pn pc, .int .i64 g0, .int .i64 g1, .int .i64 g2, .int .i64 g3, .int .i64 g4, .int .i64 g5] 110)).alloc (.cells #[.slice none 0 0, .slice none 0 0, .slice none 0 0] 52)).alloc (.cells #[.slice A n c] 189)).alloc (.cells #[.slice kA kn kc, .slice none 0 0, .slice none 0 0] 52) := ⟨_, rfl⟩
  have hb0 : Below w.heap.size w W0 := by rw [hW0]; exact Below.al (Below.al (Below.al (Below.al (Below.refl _ _) _) _) _) _
  have hbG : Bk W0 w.heap.size 110 #[.slice kA kn kc, .slice sA sn sc, .slice pA pn pc, .int .i64 g0, .int .i64 g1, .int .i64 g2, .int .i64 g3, .int .i64 g4, .int .i64 g5] := by rw [hW0]; exact (((Bk.new _ _ _).alloc _).alloc _).alloc _
  have hbR : Bk W0 (w.heap.size + 1) 52 #[.slice none 0 0, .slice none 0 0, .slice none 0 0] := by rw [hW0]; exact ((Bk.two _ _ _ _).alloc _).alloc _
  have hbS : Bk W0 (w.heap.size + 2) 189 #[.slice A n c] := by rw [hW0]; exact (by have h := Bk.new ((w.alloc (.cells #[.slice kA kn kc, .slice sA sn sc, .slice pA pn pc, .int .i64 g0, .int .i64 g1, .int .i64 g2, .int .i64 g3, .int .i64 g4, .int .i64 g5] 110)).alloc (.cells #[.slice none 0 0, .slice none 0 0, .slice none 0 0] 52)) 189 #[.slice A n c]; simpa using h : Bk (((w.alloc (.cells #[.slice kA kn kc, .slice sA sn sc, .slice pA pn pc, .int .i64 g0, .int .i64 g1, .int .i64 g2, .int .i64 g3, .int .i64 g4, .int .i64 g5] 110)).alloc (.cells #[.slice none 0 0, .slice none 0 0, .slice none 0 0] 52)).alloc (.cells #[.slice A n c] 189)) (w.heap.size + 2) 189 #[.slice A n c]).alloc _
  have hbO : Bk W0 (w.heap.size + 2 + 1) 52 #[.slice kA kn kc, .slice none 0 0, .slice none 0 0] := by rw [hW0]; have h := Bk.new (((w.alloc (.cells #[.slice kA kn kc, .slice sA sn sc, .slice pA pn pc, .int .i64 g0, .int .i64 g1, .int .i64 g2, .int .i64 g3, .int .i64 g4, .int .i64 g5] 110)).alloc (.cells #[.slice none 0 0, .slice none 0 0, .slice none 0 0] 52)).alloc (.cells #[.slice A n c] 189)) 52 #[.slice kA kn kc, .slice none 0 0, .slice none 0 0]; simpa using h
  have hst : StrSt W0 B (w.heap.size + 2) := ⟨A, n, c, zs, hbS, hn, hnc, hc, hr.below (hb0.mono hB), hz⟩
  obtain ⟨s, hs⟩ : ∃ s, s = w.heap.size + 2 := ⟨_, rfl⟩
  obtain ⟨ho, hho⟩ : ∃ z, z = s + 1 := ⟨_, rfl⟩
  obtain ⟨r, hhr⟩ : ∃ s, s = w.heap.size + 1 := ⟨_, rfl⟩
  rw [← hs] at hst
  rw [← hs, ← hho] at hbO
  rw [← hhr] at hbR
  have hBs : B ≤ s := by omega
  have hsz0 : W0.heap.size = w.heap.size + 4 := by rw [hW0]; simp
  have HNX := Lib.hid next_any
  have HB0 := Lib.hid hb0
  have HBG := Lib.hid hbG
  have HST := Lib.hid hst
  have HKS : Hid (KsY W0 0 kA kn kc ks) := Lib.hid (hk.keep (F := []) (Kx.of_below (B := 0) hb0) (by simp) (by simp))
  have HI0 : Hid (WI r ho W0.heap.size W0 kA kn kc ks none 0 0 [] none 0 0 []) := Lib.hid ⟨hbR, hbO, HKS.out, World.ownsRow_nil _ _ _ _, World.ownsRow_nil _ _ _ _, rfl, (fun x hx => by cases hx), (fun x hx => by cases hx), by omega⟩
  have HON := Lib.hid hone
  have HPL := Lib.hid hpl
  have HCP := Lib.hid (And.intro hk.cap hk.cap2)
  have HLK := Lib.hid hk.len
  have hrs : r < s := by omega
  have hso : s < ho := by omega
  have hoW : ho < W0.heap.size := by omega
  have hwr : w.heap.size < r := by omega
  have HEQ := Lib.hid (And.intro hs (And.intro hho hhr))
  have HE3 : Hid (w.heap.size + 1 + 1 + 1 = ho ∧ w.heap.size + 2 + 1 = ho ∧ w.heap.size + 3 = ho ∧ w.heap.size + 1 + 1 = s ∧ w.heap.size + 2 = s ∧ w.heap.size + 1 = r) := Lib.hid (by omega)
  have hwW : w.heap.size < W0.heap.size := by omega
  clear hr hn hnc hc hz hb0 hbR hbS hbO hbG hst hk hone hpl HKS hs hho hhr
  go_enter Try.func54, Try.ntmps54
  go_upto_region 3 with fail
  rw [← hW0]
  clear hW0
  (try rw [HE3.out.1])
  (try rw [HE3.out.2.1])
  (try rw [HE3.out.2.2.1])
  (try rw [HE3.out.2.2.2.1])
  (try rw [HE3.out.2.2.2.2.1])
  (try rw [HE3.out.2.2.2.2.2])
  go_wp2_with fail
  (with_reducible refine (HNX.out s B 6 _ HST.out hBs (by omega) (by omega)).mono ?_)
  rintro e w3 ⟨v, rfl, hv0, hv1, hst3, hg3⟩
  obtain ⟨N, rfl⟩ : ∃ N : Nat, v = N := ⟨v.toNat, by omega⟩
  have HQ3 : Hid (Fq [s, ho] W0 w3) := Lib.hid (Fq.refl.grown hg3 fun g hg => .inl (by injection hg with hg; simp [hg]))
  have hk23 : Kx 0 [189] W0 w3 := Kx.fq (B' := 0) (Fq.refl.grown hg3 fun g hg => .inl (by injection hg with hg; simp [hg])) HST.out (Nat.zero_le _)
  have HI3 : Hid (WI r ho W0.heap.size w3 kA kn kc ks none 0 0 [] none 0 0 []) := Lib.hid (HI0.out.kx hk23 (by decide) (by decide) (by decide) (by decide) (by decide) (by decide))
  have HS3 := Lib.hid hst3
  have hN12 : N < 6 := by omega
  clear hst3 hg3 hk23 HI0 hv0 hv1
  go_wp2_with fail
  go_loopw [22] (fun iv wr => ∃ (i q gc ic : Nat) (GA IA : Option Addr) (G : List Int) (its : List It), i ≤ N ∧ q ≤ i ∧ iv = .int .i64 i ∧ Hid (WI r ho W0.heap.size wr kA kn kc ks GA i gc G IA q ic its ∧ WwI holdK (ks.map Kd.p) i G (its.map It.p)) ∧ Hid (StrSt wr B s) ∧ Hid (Fq [s, ho] W0 wr)) (fun iv _ => N - (intOf iv).toNat)
  case atStart => exact ⟨0, 0, 0, 0, none, none, [], [], Nat.zero_le _, Nat.le_refl _, rfl, Lib.hid ⟨HI3.out, WwI.zero⟩, HS3, HQ3⟩
  case round =>
    clear HI3 HS3 HQ3
    obtain ⟨i, q, gc, ic, GA, IA, G, its, hi, hqi, rfl, HI, HSt, HQ⟩ := hrel
    by_cases hlt : i < N
    · have hiz : (i : Int) < N := by omega
      have s1 : wr.drew.cell? ⟨ho, 1, none⟩ = some (.slice GA i gc) := HI.out.1.bo.cell 1
      obtain ⟨i3, hi3, hz30, hz31, hz32⟩ := info_parts T.info3
      go_wp2_with fail
      refine wp_region_E (S := fun wx => wx.cell? ⟨ho, 1, none⟩ = some (.slice GA i gc)) (last := 7) (by kernel_rfl) ?_
      refine wpAnyE_val (i := 0) (v := .pointer (some ⟨ho, 1, none⟩)) (d := some 25) rfl rfl (by kernel_rfl) (by kernel_rfl) (by kernel_rfl) (by kernel_rfl) (fun _ _ _ h => h) (Or.inl ⟨by rfl, fun w _ => by go_simp⟩) s1 ?_
      (try simp only [Act.put, List.setIfInBounds_toArray, List.set_cons_zero, List.set_cons_succ])
      refine wpAnyE_val (i := 1) (v := .slice GA i gc) (d := some 26) rfl rfl (by kernel_rfl) (by kernel_rfl) (by kernel_rfl) (by kernel_rfl) (fun _ _ _ h => h) (Or.inl ⟨by rfl, fun w hS => by go_simp⟩) s1 ?_
      (try simp only [Act.put, List.setIfInBounds_toArray, List.set_cons_zero, List.set_cons_succ])
      refine wpAnyE_val (i := 2) (v := .pointer (some ⟨s, 0, none⟩)) (d := some 27) rfl rfl (by kernel_rfl) (by kernel_rfl) (by kernel_rfl) (by kernel_rfl) (fun _ _ _ h => h) (Or.inl ⟨by rfl, fun w _ => by go_simp⟩) s1 ?_
      (try simp only [Act.put, List.setIfInBounds_toArray, List.set_cons_zero, List.set_cons_succ])
      have hws : W0.heap.size ≤ wr.heap.size := HQ.out.size
      have hsd : StrSt wr.drew B s := HSt.out.below (Below.refl _ _).drew (HSt.out.lo hBs)
      refine wpAnyE_one (i := 3) rfl (by kernel_rfl) rfl ?_
      go_simp
      (with_reducible refine (HNX.out s B 2 _ hsd hBs (by omega) (by omega)).mono ?_)
      rintro e w4 ⟨v, rfl, hv0, hv1, hst4, hg4⟩
      have hk4 : Kx 0 [189] wr w4 := Kx.fq (B' := 0) ((Fq.refl (w := wr)).drew.grown hg4 fun g hg => .inl (by injection hg with hg; simp [hg])) HSt.out (Nat.zero_le _)
      have HI4 := Lib.hid (HI.out.1.kx hk4 (by decide) (by decide) (by decide) (by decide) (by decide) (by decide))
      have HQ4 : Hid (Fq [s, ho] W0 w4) := Lib.hid (HQ.out.drew.grown hg4 fun g hg => .inl (by injection hg with hg; simp [hg]))
      have HS4 := Lib.hid hst4
      have s4 : w4.cell? ⟨ho, 1, none⟩ = some (.slice GA i gc) := HI4.out.bo.cell 1
      have hw4 : W0.heap.size ≤ w4.heap.size := HQ4.out.size
      clear hk4 hst4 hg4 hsd
      refine ⟨s4, ?_⟩
      (try simp only [Act.put, List.setIfInBounds_toArray, List.set_cons_zero, List.set_cons_succ])
      refine wpAnyE_one (i := 4) rfl (by kernel_rfl) rfl ?_
      go_simp
      have s5 : (w4.alloc (.cells #[.int .i64 v] 3)).cell? ⟨ho, 1, none⟩ = some (.slice GA i gc) := (HI4.out.bo.alloc _).cell 1
      refine ⟨s5, ?_⟩
      (try simp only [Act.put, List.setIfInBounds_toArray, List.set_cons_zero, List.set_cons_succ])
      refine wpAnyE_if (i := 5) rfl (by kernel_rfl) rfl ?_
      refine step_append_one rfl (.tmp 26) (.tmp 29) 30 rfl W0.heap.size 3 i3 (.int .i64 0) 1 8 Try.underlying30 hi3 hz30 hz31 hz32 rfl (by decide) (.slice GA i gc) i (G.map (Value.int .i64)) rfl (HI4.out.gown.alloc _) w4.heap.size 1 3 #[.int .i64 v] rfl (Bk.new w4 _ _) rfl ?c1 (i + 1) rfl ?c2 ?c3 ?c4 ?_
      case c1 => simp [Value.oneCell']
      case c2 => unfold maxLen; omega
      case c3 => omega
      case c4 => (simp; omega)
      intro g9 c9 w9 hown9 hg9 hat9
      have hbo9 : Bk w9 ho 52 #[.slice kA kn kc, .slice GA i gc, .slice IA q ic] := (HI4.out.bo.alloc _).grown hg9 (fun e => own_ne HI4.out.gown HI4.out.bo (by decide) e.symm)
      have s9 : w9.cell? ⟨ho, 1, none⟩ = some (.slice GA i gc) := hbo9.cell 1
      have f9 := hbo9.frozen 1
      refine ⟨fun _ => s9, ?_⟩
      (try simp only [Act.put, List.setIfInBounds_toArray])
      refine wpAnyE_val (i := 6) (v := .pointer (some ⟨ho, 1, none⟩)) (d := some 31) rfl rfl (by kernel_rfl) (by kernel_rfl) (by kernel_rfl) (by kernel_rfl) (fun _ _ _ h => h) (Or.inl ⟨by rfl, fun w _ => by go_simp⟩) s9 ?_
      (try simp only [Act.put])
      refine wpAnyE_one (i := 7) rfl (by kernel_rfl) rfl ?_
      go_simp
      refine wpAnyE_done (by kernel_rfl) ?_ _
      have hWG := HI4.out.gen hown9 hg9 (by rcases hat9 with h | h; exact .inl h; exact .inr h)
      obtain ⟨w5, hw5⟩ : ∃ w5, w5 = w9.setCell ⟨ho, 1, none⟩ (.slice (some ⟨g9, 0, none⟩) (i + 1) c9) := ⟨_, rfl⟩
      have hB0 : B ≤ W0.heap.size := by omega
      have hB1 : B ≤ ho := by omega
      have hkB : Kx B [3, 52] w4 w5 := by rw [hw5]; exact (((Kx.refl (B := B)).alloc _).grown (HI4.out.gown.alloc _) hg9 hB0 (by simp)).set hbo9 hB1 (by simp) 1 _
      have HS5 : Hid (StrSt w5 B s) := Lib.hid (HS4.out.kx hkB (Nat.le_refl _) (HS4.out.lo hBs) (by decide))
      have HQ5 : Hid (Fq [s, ho] W0 w5) := Lib.hid (by rw [hw5]; exact ((HQ4.out.alloc _).grown hg9 (fun g hg => .inr (HI4.out.gown.lt g hg).1)).set (.inl (by simp)) 1 _)
      rw [← hw5] at hWG ⊢
      have HI5 := Lib.hid hWG.1
      have HW5 : Hid (WwI holdK (ks.map Kd.p) (i + 1) (G ++ [v]) (its.map It.p)) := Lib.hid (HI.out.2.gen hv0 (by omega))
      have HWO := Lib.hid HI.out.2
      clear hWG hkB hown9 hg9 hat9 hbo9 s9 f9 s4 s5 s1 hw5 HI4 HS4 HQ4 HI HSt HQ
      go_wp2_with fail
      (with_reducible refine (HNX.out s B 5 _ HS5.out hBs (by omega) (by omega)).mono ?_)
      rintro e w6 ⟨u, rfl, hu0, hu1, hst6, hg6⟩
      have hk6 : Kx 0 [189] w5 w6 := Kx.fq (B' := 0) ((Fq.refl (w := w5)).grown hg6 fun g hg => .inl (by injection hg with hg; simp [hg])) HS5.out (Nat.zero_le _)
      have HI6 := Lib.hid (HI5.out.kx hk6 (by decide) (by decide) (by decide) (by decide) (by decide) (by decide))
      have HQ6 : Hid (Fq [s, ho] W0 w6) := Lib.hid (HQ5.out.grown hg6 fun g hg => .inl (by injection hg with hg; simp [hg]))
      have HS6 := Lib.hid hst6
      clear hk6 hst6 hg6 HI5 HQ5 HS5
      by_cases hu3 : u = 4
      · have t3 : (u == 4) = true := by simp [hu3]
        clear hu3
        go_wp2_with fail
        go_roundw
        case rel => first | exact ⟨i + 1, q, c9, ic, some ⟨g9, 0, none⟩, IA, G ++ [v], its, by omega, by omega, by go_num, Lib.hid ⟨HI6.out, HW5.out⟩, HS6, HQ6⟩ | ((repeat apply Exists.intro); (refine And.intro ?_ ?_); rotate_left; (focus (repeat' first | exact rfl | apply And.intro)); exact ⟨i + 1, q, c9, ic, some ⟨g9, 0, none⟩, IA, G ++ [v], its, by omega, by omega, by go_num, Lib.hid ⟨HI6.out, HW5.out⟩, HS6, HQ6⟩)
        case measure => simp [intOf]; omega
      · have t3 : (u == 4) = false := by simp [hu3]
        have e1 : w6.cell? ⟨ho, 1, none⟩ = some (.slice (some ⟨g9, 0, none⟩) (i + 1) c9) := HI6.out.bo.cell 1
        clear hu3
        have hgi : w6.cell? ⟨g9, i, none⟩ = some (.int .i64 v) := by
          obtain ⟨b, o, hA, _, hcell⟩ := (Rd.of_own HI6.out.gown).at1 (k := i) (by omega) (u := .int .i64 v) (by
            rw [List.map_append, List.getElem?_append_right (by rw [List.length_map, HWO.out.len]; omega), List.length_map, HWO.out.len]; simp)
          injection hA with hA
          injection hA with h1 h2
          subst h1; subst h2
          rw [Nat.zero_add] at hcell
          exact hcell
        have hg9 := (HI6.out.gown.lt g9 rfl)
        have hi1z : (i : Int) < (i : Int) + 1 := by omega
        have hi0z : (0 : Int) ≤ i := by omega
        have hBG6 : Bk w6 w.heap.size 110 #[.slice kA kn kc, .slice sA sn sc, .slice pA pn pc, .int .i64 g0, .int .i64 g1, .int .i64 g2, .int .i64 g3, .int .i64 g4, .int .i64 g5] := (HQ6.out.low _ HBG.out.lt (by simp; omega)).trans HBG.out
        obtain ⟨w7, hw7⟩ : ∃ z, z = w6.alloc (.cells #[.int .i64 (i : Int), .int .i64 v, .slice none 0 0] 147) := ⟨_, rfl⟩
        obtain ⟨hi_, hhi⟩ : ∃ z, z = w6.heap.size := ⟨_, rfl⟩
        have HB7 : Hid (Below w6.heap.size w6 w7) := Lib.hid (by rw [hw7]; exact (Below.refl _ _).alloc (Nat.le_refl _) _)
        have HH7 : Hid (Bk w7 hi_ 147 #[.int .i64 (i : Int), .int .i64 v, .slice none 0 0]) := Lib.hid (by rw [hw7, hhi]; exact Bk.new _ _ _)
        have g1 : (w6.alloc (.cells #[.int .i64 (i : Int), .int .i64 v, .slice none 0 0] 147)).cell? ⟨w.heap.size, 0, none⟩ = some (.slice kA kn kc) := (hBG6.alloc _).cell 0
        have HVK : Hid (VkI w7 w6 B w6.heap.size s hi_ i v none 0 0 []) := Lib.hid ⟨HS6.out.below HB7.out (HS6.out.lo hBs), HH7.out, World.ownsRow_nil _ _ _ _, rfl, (fun z hz => by cases hz), (fun z hz => by cases hz), Fq.of_below HB7.out⟩
        have HKS7 : Hid (KsY w7 0 kA kn kc ks) := Lib.hid (HI6.out.ks.keep (F := []) (Kx.of_below (B := 0) HB7.out) (by simp) (by simp))
        have HBW : Hid (B ≤ w6.heap.size ∧ w6.heap.size ≤ w7.heap.size ∧ w6.heap.size ≤ hi_) := Lib.hid ⟨HS6.out.lo hBs, HB7.out.size, by omega⟩
        have HHE := Lib.hid hhi
        go_upto_block 2 with fail
        rw [← hw7, ← hhi]
        clear hw7 hhi g1 e1 hgi hBG6
        refine vdKinds_any HKS7.out HON.out HPL.out HVK.out hBs HBW.out.1 (Nat.le_refl _) HBW.out.2.2 HBW.out.2.1 hkn ?_
        intros
        rename_i CA q2 cc l w8 H8
        have HQ68 : Hid (Fq [s] w6 w8) := Lib.hid H8.out.2.1.fq
        have hk8 : Kx 0 [189] w6 w8 := Kx.fq (B' := 0) HQ68.out HS6.out (Nat.zero_le _)
        have HI8 := Lib.hid (HI6.out.kx hk8 (by decide) (by decide) (by decide) (by decide) (by decide) (by decide))
        have HQ8 : Hid (Fq [s, ho] W0 w8) := Lib.hid (HQ6.out.trans HQ68.out (fun k hk => .inl (by rw [show k = s by simpa using hk]; simp)))
        have HS8 : Hid (StrSt w8 B s) := Lib.hid H8.out.2.1.st
        have hq2 : q2 ≤ kn := H8.out.1
        have HOL := Lib.hid H8.out.2.1.own
        have HIT8 : Hid (ItY w8 0 (⟨i, v, CA, q2, cc, l⟩ : It)) := Lib.hid ⟨⟨RdY.of_own HOL.out, H8.out.2.1.len, (own_cap2 HOL.out).1, (own_cap2 HOL.out).2, H8.out.2.1.cm⟩, wf_i64 (by show _ ≤ ((i : Nat) : Int); omega) (by show ((i : Nat) : Int) ≤ _; omega), wf_i64 (by show _ ≤ v; omega) (by show v ≤ _; omega)⟩
        have HNO : Hid (NoB (Value.slice (some ⟨g9, 0, none⟩) (i + 1) c9).ownBlock l) := Lib.hid (NoB.of_fr H8.out.2.1.fr (fun b hb => by
          have e : g9 = b := by simpa [Value.ownBlock] using hb
          subst e
          exact ⟨Nat.zero_le _, hg9.2⟩))
        have HVC := Lib.hid H8.out.2.2.1
        have HHI8 := Lib.hid H8.out.2.1.it
        clear hk8 H8 HVK HKS7 HH7 HB7
        have e2 : w8.cell? ⟨ho, 2, none⟩ = some (.slice IA q ic) := HI8.out.bo.cell 2
        have k0 : w8.cell? ⟨hi_, 0, none⟩ = some (.int .i64 (i : Int)) := HHI8.out.cell 0
        have k1 : w8.cell? ⟨hi_, 1, none⟩ = some (.int .i64 v) := HHI8.out.cell 1
        have k2 : w8.cell? ⟨hi_, 2, none⟩ = some (.slice CA q2 cc) := HHI8.out.cell 2
        obtain ⟨iI, hiI, hzI0, hzI1, hzI2⟩ := info_parts T.infoIt
        have hw8 : W0.heap.size ≤ w8.heap.size := HQ8.out.size
        have hB0 : B ≤ W0.heap.size := by omega
        go_wp2_with
          (at_builtin
           go_must (refine wpList_append_one _ rfl (.tmp 102) (.tmp 104) _ rfl W0.heap.size 147 iI (.agg #[.int .i64 0, .int .i64 0, .slice none 0 0]) 3 40 Try.underlying50 hiI hzI0 hzI1 hzI2 rfl (by decide) (.slice IA q ic) q (itCs its) rfl (HI8.out.iown.alloc _) w8.heap.size 1 147 #[.int .i64 (i : Int), .int .i64 v, .slice CA q2 cc] rfl (Bk.new _ _ _) rfl ?c1 (q + 1) rfl ?c2 ?c3 ?c4 ?_)
           case c1 => simp [Value.oneCell']
           case c2 => unfold maxLen; omega
           case c3 => omega
           case c4 => (simp; omega)
           intro gA cA wA hownA hgA hatA
           have hboA : Bk wA ho 52 #[.slice kA kn kc, .slice (some ⟨g9, 0, none⟩) (i + 1) c9, .slice IA q ic] := (HI8.out.bo.alloc _).grown hgA (fun e => own_ne HI8.out.iown HI8.out.bo (by decide) e.symm)
           have z0 : wA.cell? ⟨ho, 2, none⟩ = some (.slice IA q ic) := hboA.cell 2
           have z1 := hboA.frozen 2
           have hWI := HI8.out.item HIT8.out HNO.out hownA hgA
           have hkB : Kx B [147, 52] w8 (wA.setCell ⟨ho, 2, none⟩ (.slice (some ⟨gA, 0, none⟩) (q + 1) cA)) := (((Kx.refl (B := B)).alloc _).grown (HI8.out.iown.alloc _) hgA hB0 (by simp)).set hboA (by omega) (by simp) 2 _
           have HSN : Hid (StrSt (wA.setCell ⟨ho, 2, none⟩ (.slice (some ⟨gA, 0, none⟩) (q + 1) cA)) B s) := Lib.hid (HS8.out.kx hkB (Nat.le_refl _) (HS8.out.lo hBs) (by decide))
           have HQN : Hid (Fq [s, ho] W0 (wA.setCell ⟨ho, 2, none⟩ (.slice (some ⟨gA, 0, none⟩) (q + 1) cA))) := Lib.hid (((HQ8.out.alloc _).grown hgA (fun g hg => .inr (HI8.out.iown.lt g hg).1)).set (.inl (by simp)) 2 _)
           have HIN : Hid (WI r ho W0.heap.size (wA.setCell ⟨ho, 2, none⟩ (.slice (some ⟨gA, 0, none⟩) (q + 1) cA)) kA kn kc ks (some ⟨g9, 0, none⟩) (i + 1) c9 (G ++ [v]) (some ⟨gA, 0, none⟩) (q + 1) cA (its ++ [(⟨i, v, CA, q2, cc, l⟩ : It)]) ∧ WwI holdK (ks.map Kd.p) (i + 1) (G ++ [v]) ((its ++ [(⟨i, v, CA, q2, cc, l⟩ : It)]).map It.p)) := Lib.hid ⟨hWI.1, by
             rw [List.map_append]
             exact HWO.out.item hv0 (by omega) HVC.out⟩
           clear hWI hkB hownA hgA hatA hboA)
        go_roundw
        case rel => first | exact ⟨i + 1, q + 1, c9, cA, some ⟨g9, 0, none⟩, some ⟨gA, 0, none⟩, G ++ [v], its ++ [(⟨i, v, CA, q2, cc, l⟩ : It)], by omega, by omega, by go_num, HIN, HSN, HQN⟩ | ((repeat apply Exists.intro); (refine And.intro ?_ ?_); rotate_left; (focus (repeat' first | exact rfl | apply And.intro)); exact ⟨i + 1, q + 1, c9, cA, some ⟨g9, 0, none⟩, some ⟨gA, 0, none⟩, G ++ [v], its ++ [(⟨i, v, CA, q2, cc, l⟩ : It)], by omega, by omega, by go_num, HIN, HSN, HQN⟩)
        case measure => simp [intOf]; omega
    · obtain rfl : N = i := by omega
      have b0 : wr.cell? ⟨ho, 0, none⟩ = some (.slice kA kn kc) := HI.out.1.bo.cell 0
      have b1 : wr.cell? ⟨ho, 1, none⟩ = some (.slice GA N gc) := HI.out.1.bo.cell 1
      have b2 : wr.cell? ⟨ho, 2, none⟩ = some (.slice IA q ic) := HI.out.1.bo.cell 2
      have n0 : wr.cell? ⟨r, 0, none⟩ = some (.slice none 0 0) := HI.out.1.bR.cell 0
      have n1 : wr.cell? ⟨r, 1, none⟩ = some (.slice none 0 0) := HI.out.1.bR.cell 1
      have n2 : wr.cell? ⟨r, 2, none⟩ = some (.slice none 0 0) := HI.out.1.bR.cell 2
      have m0 := HI.out.1.bR.frozen 0
      have m1 := HI.out.1.bR.frozen 1
      have m2 := HI.out.1.bR.frozen 2
      go_wp2_with fail
      (try simp only [Exit.inBlock, Exit.then])
      have hkx := Kx.set3 (B := 0) (F := [52]) Kx.refl HI.out.1.bR (Nat.zero_le _) (by simp) 0 1 2 (.slice kA kn kc) (.slice GA N gc) (.slice IA q ic)
      have hvw := HI.out.2.done (by omega)
      have hgw : ∀ g ∈ G, (Lit.int .i64 g).wf = true := fun g hg => by have := HI.out.2.gens g hg; exact wf_i64 (by omega) (by omega)
      have hbel : Below w.heap.size w wr := HB0.out.trans (HQ.out.below (fun k hk => by (have hk : k = s ∨ k = ho := (by simpa using hk)); omega) HB0.out.size)
      have hwr2 : w.heap.size ≤ r := by omega
      refine bodyPost_ret (v := .agg #[.slice kA kn kc, .slice GA N gc, .slice IA q ic]) ?_ rfl ⟨⟨kA, kn, kc, ks, GA, N, gc, G, IA, q, ic, its⟩, rfl, Lib.hid ⟨⟨⟨HI.out.1.ks.keep hkx (by decide) (by decide), (GsY.own HI.out.1.gown hgw).keep hkx (by decide), (IsY.of_own HI.out.1.iown HI.out.1.len HI.out.1.iok).keep hkx (by decide) (by decide) (by decide)⟩, hvw⟩, rfl, rfl, rfl, rfl, ?_, ?_⟩, ?_⟩
      · rw [results_c1 rfl]
        go_simp
      · show its.length ≤ 5
        have := HI.out.1.len
        omega
      · show G.length ≤ 5
        have := HI.out.2.len
        omega
      · exact ((hbel.setCell (p := ⟨r, 0, none⟩) hwr2 _).setCell (p := ⟨r, 1, none⟩) hwr2 _).setCell (p := ⟨r, 2, none⟩) hwr2 _
/-! ### Ce -/
theorem grown_cellsC (w : World) (g o : Nat) (vs : List Value) : w.grownBy (w.setCells g o vs) (some g) := by
  induction vs generalizing w o with
  | nil => exact ⟨rfl, rfl, rfl, Nat.le_refl _, fun _ _ _ => rfl⟩
  | cons v r ih =>
    have h := ih (w.setCell ⟨g, o, none⟩ v) (o + 1)
    have h0 : w.grownBy (w.setCell ⟨g, o, none⟩ v) (some g) := Gb.set_ ⟨rfl, rfl, rfl, Nat.le_refl _, fun _ _ _ => rfl⟩ o v
    exact ⟨h.os.trans h0.os, h.tape.trans h0.tape, h.output.trans h0.output, Nat.le_trans h0.size h.size, fun k hk hne => (h.block k (Nat.lt_of_lt_of_le hk h0.size) hne).trans (h0.block k hk hne)⟩
theorem clo236_any (x : Int) (w : World) : Calls Try.prog 236 #[.int .i64 x] w fun e w' => e = .returned (.bool (decide (x = 0))) ∧ w' = w := by
  obtain ⟨d, hd⟩ : ∃ d, d = decide (x = 0) := ⟨_, rfl⟩
  have t0 : (x == 0) = d := by rw [hd]; rw [Bool.eq_iff_iff]; simp
  rw [← hd]
  clear hd
  cases d
  all_goals
    go_enter Try.func236, Try.ntmps236
    go_wp2_with fail
    go_ret
    exact ⟨rfl, rfl⟩
set_option maxHeartbeats 1600000 in
theorem idx248_any {w : World} {B n c : Nat} {A : Option Addr} {xs : List Int} (h : Rd w B 1 A n (xs.map (Value.int .i64))) (hlen : n = xs.length) (hcap : n ≤ c) (hcap2 : c ≤ 9223372036854775807) :
    Calls Try.prog 248 #[.slice A n c, .func (.func 236) #[] #[]] w fun e w' => (∃ r : Int, e = .returned (.int .i64 r) ∧ (r = -1 ∨ ∃ k : Nat, r = k ∧ k < n)) ∧ w' = w := by
  have HK : Hid (Rd w B 1 A n (xs.map (Value.int .i64)) ∧ n = xs.length) := Lib.hid ⟨h, hlen⟩
  have HC := Lib.hid clo236_any
  clear h hlen
  go_enter Try.func248, Try.ntmps248
  go_wp2_with fail
  go_loopw [8] (fun i wr => ∃ k : Nat, k ≤ n ∧ i = .int .i64 k ∧ wr = w) (fun i _ => n - (intOf i).toNat)
  case atStart => exact ⟨0, Nat.zero_le _, rfl, rfl⟩
  case round =>
    obtain ⟨k, hk, rfl, rfl⟩ := hrel
    by_cases hlt : k < n
    · have hkz : (k : Int) < n := by omega
      obtain ⟨x, hx⟩ : ∃ x, xs[k]? = some x := ⟨_, List.getElem?_eq_getElem (by have := HK.out.2; omega)⟩
      obtain ⟨b, o, rfl, hb, hc⟩ := HK.out.1.at1 hlt (u := .int .i64 x) (by rw [List.getElem?_map, hx]; rfl)
      by_cases hx0 : x = 0
      · subst hx0
        go_wp2_with fail
        (with_reducible refine (HC.out 0 _).mono ?_)
        rintro e w1 ⟨rfl, rfl⟩
        go_wp2_with fail
        go_ret
        exact ⟨⟨_, rfl, .inr ⟨k, rfl, hlt⟩⟩, rfl⟩
      · have t0 : decide (x = 0) = false := by simp [hx0]
        clear hx0
        go_wp2_with fail
        (with_reducible refine (HC.out x _).mono ?_)
        rintro e w1 ⟨rfl, rfl⟩
        rw [t0]
        go_wp2_with fail
        go_roundw
        case rel => first | exact ⟨k + 1, by omega, by go_num, rfl⟩ | exact ⟨k + 1, by omega, by go_num, trivial⟩
        case measure => simp [intOf]; omega
    · obtain rfl : n = k := by omega
      go_wp2_with fail
      go_ret
      exact ⟨⟨_, rfl, .inl rfl⟩, rfl⟩
set_option maxHeartbeats 4000000 in
theorem del235_any {w : World} {base n c : Nat} {A : Option Addr} {xs : List Int} (h : w.ownsRow base 3 1 (.slice A n c) n (xs.map (Value.int .i64))) :
    Calls Try.prog 235 #[.slice A n c, .func (.func 236) #[] #[]] w fun e w' => (∃ m : Nat, e = .returned (.slice A m c) ∧ m ≤ n) ∧ ∃ F : List Nat, (∀ k ∈ F, (Value.slice A n c).ownBlock = some k) ∧ Fq F w w' := by
  have hcp := own_cap2 h
  have hcap := hcp.1
  have hcap2 := hcp.2
  have hlen : n = xs.length := by have := h.1; simpa using this.symm
  have HI := Lib.hid (idx248_any (Rd.of_own h) hlen hcap hcap2)
  have HO := Lib.hid h
  have HC := Lib.hid clo236_any
  have HL := Lib.hid hlen
  clear hcp h hlen
  go_enter Try.func235, Try.ntmps235
  go_wp2_with fail
  (with_reducible refine HI.out.mono ?_)
  rintro e w1 ⟨⟨r, rfl, hr⟩, rfl⟩
  rcases hr with rfl | ⟨i0, rfl, hi0⟩
  · go_wp2_with fail
    go_ret
    exact ⟨⟨n, rfl, Nat.le_refl _⟩, [], (fun k hk => by cases hk), Fq.refl⟩
  · obtain ⟨g, rfl⟩ : ∃ g, A = some ⟨g, 0, none⟩ := by
      obtain ⟨g, cap, hvv, _, _⟩ := HO.out.form (by omega)
      injection hvv with h1
      exact ⟨g, h1⟩
    have hm1 : ((i0 : Int) == -1) = false := by simp <;> omega
    have hiz : (i0 : Int) < n := by omega
    have hwr : wrap64 ((i0 : Int) + 1) = (i0 : Int) + 1 := wrap_small (by omega) (by omega)
    clear HI
    go_wp2_with fail
    go_loopw [5, 6] (fun iv jv wr => ∃ (i j : Nat) (ys : List Int), i < j ∧ j ≤ n ∧ iv = .int .i64 i ∧ jv = .int .i64 j ∧ Hid (wr.ownsRow base 3 1 (.slice (some ⟨g, 0, none⟩) n c) n (ys.map (Value.int .i64)) ∧ n = ys.length) ∧ Hid (Fq [g] w1 wr)) (fun _ jv _ => n - (intOf jv).toNat)
    case atStart => exact ⟨i0, i0 + 1, xs, by omega, by omega, rfl, by go_num, Lib.hid ⟨HO.out, HL.out⟩, Lib.hid Fq.refl⟩
    case round =>
      obtain ⟨i, j, ys, hij, hj, rfl, rfl, HY, HQ⟩ := hrel
      by_cases hlt : j < n
      · have hjz : (j : Int) < n := by omega
        have hiz2 : (i : Int) < n := by omega
        obtain ⟨y, hy⟩ : ∃ y, ys[j]? = some y := ⟨_, List.getElem?_eq_getElem (by have := HY.out.2; omega)⟩
        obtain ⟨b, o, hA, hb, hc⟩ := (Rd.of_own HY.out.1).at1 hlt (u := .int .i64 y) (by rw [List.getElem?_map, hy]; rfl)
        injection hA with hA
        injection hA with h1 h2
        subst h1; subst h2
        rw [Nat.zero_add] at hc
        clear hy hb
        by_cases hy0 : y = 0
        · have t0 : decide (y = 0) = true := by simp [hy0]
          clear hy0
          go_wp2_with fail
          (with_reducible refine (HC.out y _).mono ?_)
          rintro e w2 ⟨rfl, rfl⟩
          rw [t0]
          go_wp2_with fail
          go_roundw
          case rel => exact ⟨i, j + 1, ys, by omega, by omega, rfl, by go_num, HY, HQ⟩
          case measure => simp [intOf]; omega
        · have t0 : decide (y = 0) = false := by simp [hy0]
          clear hy0
          obtain ⟨⟨q, hq⟩, hf⟩ := own_cellB HY.out.1 (j := i) (by omega)
          have HS : Hid ((wr.setCell ⟨g, i, none⟩ (.int .i64 y)).ownsRow base 3 1 (.slice (some ⟨g, 0, none⟩) n c) n ((ys.set i y).map (Value.int .i64)) ∧ n = (ys.set i y).length) := Lib.hid ⟨by rw [List.map_set]; exact own_setB HY.out.1 (by omega) _, by rw [List.length_set]; exact HY.out.2⟩
          have HQ2 : Hid (Fq [g] w1 (wr.setCell ⟨g, i, none⟩ (.int .i64 y))) := Lib.hid (HQ.out.set (.inl (by simp)) i _)
          go_wp2_with fail
          (with_reducible refine (HC.out y _).mono ?_)
          rintro e w2 ⟨rfl, rfl⟩
          rw [t0]
          go_wp2_with fail
          go_roundw
          case rel => exact ⟨i + 1, j + 1, ys.set i y, by omega, by omega, by go_num, by go_num, HS, HQ2⟩
          case measure => simp [intOf]; omega
      · obtain rfl : n = j := by omega
        have hin : (i : Int) ≤ n := by omega
        have hic : (i : Int) ≤ c := by omega
        have hcl : ∀ ty, (Builtin.clear_ #[30] ty #[.slice (some ⟨g, i, none⟩) (n - i) (c - i)]).run Try.prog wr = .ok (.tuple #[]) (wr.setCells g i (List.replicate (n - i) (.int .i64 0))) := fun ty => Lib.run_clear_slice wr 30 3 ty _ Try.underlying30 (by intro w; kernel_rfl) (by rfl) (by rfl) g i _ _ (by omega) (fun t ht => by obtain ⟨⟨u, hu⟩, _⟩ := own_cellB HY.out.1 (j := i + t) (by omega); rw [hu]; rfl) (fun t ht => (own_cellB HY.out.1 (j := i + t) (by omega)).2)
        have HF : Hid (Fq [g] w1 (wr.setCells g i (List.replicate (n - i) (.int .i64 0)))) := Lib.hid (HQ.out.grown (grown_cellsC wr g i _) (fun k hk => .inl (by injection hk with hk; simp [hk])))
        go_wp2_with fail
        go_ret
        exact ⟨⟨i, rfl, by omega⟩, [g], (fun k hk => by rw [show k = g by simpa using hk]; rfl), HF.out⟩
end Go.Proofs.Ytnidcmhfbkdioaa
