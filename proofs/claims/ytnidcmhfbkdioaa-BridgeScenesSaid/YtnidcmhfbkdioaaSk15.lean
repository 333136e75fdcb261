/-
  Lemmas for the walk, merged (Cb Cc Mu Cd Ce Rl Cf). No condition but those in each statement.
-/
import Derived.Deep.CutBlock
import Derived.Lib.SliceRun
import Derived.Test.YtnidcmhfbkdioaaSk14
import Derived.Test.YtnidcmhfbkdioaaSk13
import Derived.Test.YtnidcmhfbkdioaaSk6
namespace Go.Proofs.Ytnidcmhfbkdioaa
/-! ### Cb -/
open Go.RowKit
set_option maxRecDepth 100000
noncomputable def vdKind : Code := (Try.f54.body.bind (blkN 3)).getD .skip
/-- What a round of kinds holds: the stream, the entity with its components so far, what else was there. -/
structure VkI (w wI : World) (B base s hi : Nat) (e g : Int) (CA : Option Addr) (q cc : Nat) (l1 : List Cm) : Prop where
  st : StrSt w B s
  it : Bk w hi 147 #[.int .i64 e, .int .i64 g, .slice CA q cc]
  own : w.ownsRow base 166 2 (.slice CA q cc) q (cmCs l1)
  len : q = l1.length
  cm : ∀ z ∈ l1, CmY w 0 z
  fr : Fr wI.heap.size 0 l1
  fq : Fq [s] wI w
theorem VkI.kx {w w' wI : World} {B base s hi q cc : Nat} {e g : Int} {CA : Option Addr} {l1 : List Cm} (h : VkI w wI B base s hi e g CA q cc l1) (_hB : B ≤ s) (hst : StrSt w' B s) (hq : Fq [s] w w') : VkI w' wI B base s hi e g CA q cc l1 := by
  have hk := Kx.fq (B' := 0) hq h.st (Nat.zero_le _)
  exact ⟨hst, hk.bk h.it (by decide), hk.own h.own (by decide), h.len, fun z hz => (h.cm z hz).keep hk (by decide), h.fr, h.fq.trans hq (SubF.refl _ _)⟩
set_option maxHeartbeats 16000000 in
theorem vdKind_any {x0 x1 x2 x3 x4 x6 x7 x9 x10 x11 x12 x13 x14 x15 x16 x17 x18 x19 x20 x21 x22 x23 x24 x25 x26 x27 x28 x29 x30 x31 x32 x33 x34 x35 x36 x37 x38 x39 x40 x41 x42 x43 x45 x47 x48 x49 x50 x51 x52 x53 x54 x55 x56 x57 x58 x59 x60 x61 x62 x63 x64 x65 x66 x67 x68 x69 x70 x71 x72 x73 x74 x75 x76 x77 x78 x79 x80 x81 x82 x83 x84 x85 x86 x87 x88 x89 x90 x91 x92 x93 x94 x95 x96 x97 x98 x99 x100 x101 x102 x103 x104 x105 x106 x107 x108 : Value} {Q : Exit → Act → World → Prop} {wI w0 : World} {B base s hi i q cc kn kc : Nat} {kA CA : Option Addr} {ks : List Kd} {k : Kd} {e g : Int} {l1 : List Cm}
    (hk : KsY w0 0 kA kn kc ks) (hkk : ks[i]? = some k) (hone : oneF k.nm k.fds = 0) (hpl : k.nm = kn_p → k.fds = kf_p) (hI : VkI w0 wI B base s hi e g CA q cc l1)
    (hB : B ≤ s) (hBb : B ≤ base) (hbI : wI.heap.size ≤ base) (hhi : base ≤ hi) (hq : q ≤ 64) (hb0 : base ≤ w0.heap.size) (hi8 : i ≤ 64)
    (hSkip : ∀ (y9 y10 y11 y13 y48 y49 y50 y51 y52 y53 y54 y55 y56 y57 y58 y59 y60 y61 y62 y63 y64 y65 y66 y67 y68 y69 y70 y71 y72 y73 y74 y75 y76 y77 y78 y79 y80 y81 y82 y83 y84 y85 y86 y87 y88 y89 y90 y91 y92 y93 y94 y95 y96 y97 y98 y99 : Value) (w' : World), Hid (VkI w' wI B base s hi e g CA q cc l1 ∧ Fq [s] w0 w') → Q .normal ⟨#[x0, x1, x2, x3, x4, .pointer (some ⟨s, 0, none⟩), x6, x7, .pointer (some ⟨hi, 0, none⟩), y9, y10, y11, x12, y13, x14, x15, x16, x17, x18, x19, x20, x21, x22, x23, x24, x25, x26, x27, x28, x29, x30, x31, x32, x33, x34, x35, x36, x37, x38, x39, x40, x41, x42, x43, .slice kA kn kc, x45, .int .i64 (i : Int), x47, y48, y49, y50, y51, y52, y53, y54, y55, y56, y57, y58, y59, y60, y61, y62, y63, y64, y65, y66, y67, y68, y69, y70, y71, y72, y73, y74, y75, y76, y77, y78, y79, y80, y81, y82, y83, y84, y85, y86, y87, y88, y89, y90, y91, y92, y93, y94, y95, y96, y97, y98, y99, x100, x101, x102, x103, x104, x105, x106, x107, x108], []⟩ w')
    (hAdd : ∀ (y9 y10 y11 y13 y48 y49 y50 y51 y52 y53 y54 y55 y56 y57 y58 y59 y60 y61 y62 y63 y64 y65 y66 y67 y68 y69 y70 y71 y72 y73 y74 y75 y76 y77 y78 y79 y80 y81 y82 y83 y84 y85 y86 y87 y88 y89 y90 y91 y92 y93 y94 y95 y96 y97 y98 y99 : Value) (vs : List Int) (VA : Option Addr) (vc gA cA : Nat) (w' : World), Hid (holdK k.p vs = true ∧ VkI w' wI B base s hi e g (some ⟨gA, 0, none⟩) (q + 1) cA (l1 ++ [(⟨i, VA, vs.length, vc, vs⟩ : Cm)]) ∧ KsY w' 0 kA kn kc ks) → Q .normal ⟨#[x0, x1, x2, x3, x4, .pointer (some ⟨s, 0, none⟩), x6, x7, .pointer (some ⟨hi, 0, none⟩), y9, y10, y11, x12, y13, x14, x15, x16, x17, x18, x19, x20, x21, x22, x23, x24, x25, x26, x27, x28, x29, x30, x31, x32, x33, x34, x35, x36, x37, x38, x39, x40, x41, x42, x43, .slice kA kn kc, x45, .int .i64 (i : Int), x47, y48, y49, y50, y51, y52, y53, y54, y55, y56, y57, y58, y59, y60, y61, y62, y63, y64, y65, y66, y67, y68, y69, y70, y71, y72, y73, y74, y75, y76, y77, y78, y79, y80, y81, y82, y83, y84, y85, y86, y87, y88, y89, y90, y91, y92, y93, y94, y95, y96, y97, y98, y99, x100, x101, x102, x103, x104, x105, x106, x107, x108], []⟩ w') :
    Code.wp Try.prog vdKind Q ⟨#[x0, x1, x2, x3, x4, .pointer (some ⟨s, 0, none⟩), x6, x7, .pointer (some ⟨hi, 0, none⟩), x9, x10, x11, x12, x13, x14, x15, x16, x17, x18, x19, x20, x21, x22, x23, x24, x25, x26, x27, x28, x29, x30, x31, x32, x33, x34, x35, x36, x37, x38, x39, x40, x41, x42, x43, .slice kA kn kc, x45, .int .i64 (i : Int), x47, x48, x49, x50, x51, x52, x53, x54, x55, x56, x57, x58, x59, x60, x61, x62, x63, x64, x65, x66, x67, x68, x69, x70, x71, x72, x73, x74, x75, x76, x77, x78, x79, x80, x81, x82, x83, x84, x85, x86, x87, x88, x89, x90, x91, x92, x93, x94, x95, x96, x97, x98, x99, x100, x101, x102, x103, x104, x105, x106, x107, x108], []⟩ w0 := by
  conv => arg 2; whnf
  obtain ⟨i1, hi1, hz10, hz11, hz12⟩ := info_parts T.infoCm
  have HNX := Lib.hid next_any
  have HK := Lib.hid hk
  have HKK := Lib.hid hkk
  have HI := Lib.hid hI
  have hin : i < kn := by have := (List.getElem?_eq_some_iff.1 hkk).1; have := hk.len; omega
  have hinz : (i : Int) < kn := by omega
  have hinz0 : (0 : Int) ≤ i := by omega
  have hcap := hk.cap
  have hcap2 := hk.cap2
  have hko := hk.ok k (List.mem_of_getElem? hkk)
  obtain ⟨b, o, rfl, hbb, q0, q1⟩ := hk.rd.rd.kd hin hkk
  obtain ⟨hkd, hhkd⟩ : ∃ z, z = w0.heap.size := ⟨_, rfl⟩
  obtain ⟨w1, hw1⟩ : ∃ w1, w1 = w0.alloc (.cells #[.string k.nm, .slice k.A k.n k.c] 63) := ⟨_, rfl⟩
  have HK1 : Hid (Bk w1 hkd 63 #[.string k.nm, .slice k.A k.n k.c]) := Lib.hid (by rw [hw1, hhkd]; exact Bk.new _ _ _)
  have HB1 : Hid (Below w0.heap.size w0 w1) := Lib.hid (by rw [hw1]; exact (Below.refl _ _).alloc (Nat.le_refl _) _)
  have HS1 : Hid (StrSt w1 B s) := Lib.hid (hI.st.below HB1.out (hI.st.lo hB))
  have HKO := Lib.hid hko
  have HON := Lib.hid (And.intro hone hpl)
  have hf8 : k.n ≤ 8 := by rw [hko.len]; exact oneF_len hone
  have hkcap := hko.cap
  have hkcap2 := hko.cap2
  have hks : hkd ≠ s := by
    obtain ⟨cs, h⟩ := hI.st.bk
    have := h.lt
    omega
  clear hk hkk hko hI hone hpl
  generalize hknm : k.nm = knm at *
  generalize hkA : k.A = fA at *
  generalize hkn : k.n = fn at *
  generalize hkc : k.c = fc at *
  have HKV := Lib.hid (And.intro hknm (And.intro hkA (And.intro hkn hkc)))
  clear hknm hkA hkn hkc
  go_upto_region 12 with fail
  rw [← hw1, ← hhkd]
  clear hw1 q0 q1
  have HHK := Lib.hid hhkd
  clear hhkd
  go_wp2_with fail
  (with_reducible refine (HNX.out s B 4 _ HS1.out hB (by omega) (by omega)).mono ?_)
  rintro e' w2 ⟨v, rfl, hv0, hv1, hst2, hg2⟩
  have HK2 : Hid (Bk w2 hkd 63 #[.string knm, .slice fA fn fc]) := Lib.hid (HK1.out.grown hg2 (fun e => by injection e with e; omega))
  have HQ2 : Hid (Fq [s] w0 w2) := Lib.hid ((Fq.of_below HB1.out).grown hg2 fun g hg => .inl (by injection hg with hg; simp [hg]))
  have HI2 : Hid (VkI w2 wI B base s hi e g CA q cc l1) := Lib.hid (HI.out.kx hB hst2 HQ2.out)
  have HW2 : Hid (w0.heap.size < w2.heap.size) := Lib.hid (by have h1 := HK1.out.lt; have h2 := hg2.size; have h3 := HHK.out; omega)
  clear hst2 hg2 HK1 HS1 HB1
  by_cases hv3 : v = 3
  · have t2 : (v == 3) = true := by simp [hv3]
    have HF : Hid (VkI w2 wI B base s hi e g CA q cc l1 ∧ Fq [s] w0 w2) := Lib.hid ⟨HI2.out, HQ2.out⟩
    clear hv3
    go_wp2_with fail
    (try simp only [Exit.inBlock, Exit.then])
    first
      | exact HF
      | exact hSkip _ _ _ _ _ _ _ _ _ _ _ _ _ _ _ _ _ _ _ _ _ _ _ _ _ _ _ _ _ _ _ _ _ _ _ _ _ _ _ _ _ _ _ _ _ _ _ _ _ _ _ _ _ _ _ _ _ HF
  · have t2 : (v == 3) = false := by simp [hv3]
    clear hv3
    have c1 : w2.cell? ⟨hkd, 1, none⟩ = some (.slice fA fn fc) := HK2.out.cell 1
    have c2 : (w2.alloc (.cells #[.int .i64 (i : Int), .slice none 0 0] 166)).cell? ⟨hkd, 1, none⟩ = some (.slice fA fn fc) := (HK2.out.alloc _).cell 1
    obtain ⟨w3, hw3⟩ : ∃ w3, w3 = w2.alloc (.cells #[.int .i64 (i : Int), .slice none 0 0] 166) := ⟨_, rfl⟩
    obtain ⟨cA, hcA⟩ : ∃ z, z = w2.heap.size := ⟨_, rfl⟩
    have HB3 : Hid (Below w2.heap.size w2 w3) := Lib.hid (by rw [hw3]; exact (Below.refl _ _).alloc (Nat.le_refl _) _)
    have HC3 : Hid (Bk w3 cA 166 #[.int .i64 (i : Int), .slice none 0 0]) := Lib.hid (by rw [hw3, hcA]; exact Bk.new _ _ _)
    have HS3 : Hid (StrSt w3 B s) := Lib.hid (HI2.out.st.below HB3.out (HI2.out.st.lo hB))
    have HK3 : Hid (Bk w3 hkd 63 #[.string knm, .slice fA fn fc]) := Lib.hid (HK2.out.below HB3.out HK2.out.lt)
    have HQ3 : Hid (Fq [s] w2 w3) := Lib.hid (Fq.of_below HB3.out)
    have HRD : Hid (RdY w3 B 66 3 fA fn (fdCs k.fds)) := Lib.hid (by
      have h := ((HKO.out.rd.keep (Kx.fq (B' := 0) HQ2.out HI.out.st (Nat.zero_le _)) (by decide)).keep (Kx.of_below (B := 0) (F := []) HB3.out) (by simp)).more (Nat.zero_le B)
      rw [HKV.out.2.1, HKV.out.2.2.1] at h
      exact h)
    have HLN : Hid (fn = k.fds.length) := Lib.hid (by rw [← HKV.out.2.2.1]; exact HKO.out.len)
    have HFO : Hid (∀ f ∈ k.fds, fieldF f = 0) := Lib.hid fun f hf => one_ok HON.out.1 hf
    have HWB : Hid (B ≤ w2.heap.size ∧ w2.heap.size ≤ w3.heap.size ∧ w2.heap.size ≤ cA) := Lib.hid ⟨by have := HW2.out; omega, HB3.out.size, by omega⟩
    have HCW := Lib.hid hcA
    go_upto_block 4 with fail
    rw [← hw3, ← hcA]
    clear c1 c2 hw3 hcA
    refine vdLoop_any (wI := w2) (base := w2.heap.size) HS3.out hB HRD.out HLN.out (by omega) (by omega) HFO.out (by omega) HC3.out HWB.out.1 HWB.out.2.1 HWB.out.2.2 HQ3.out (Nat.le_refl _) ?_
    intros
    rename_i vs VA vc w4 H4
    have HK4 : Hid (Bk w4 hkd 63 #[.string knm, .slice fA fn fc]) := Lib.hid (H4.out.2.2.2.2.2.bk HK3.out (by decide))
    have HIN4 : Hid (InR k.fds vs) := Lib.hid H4.out.1
    have HST4 : Hid (StrSt w4 B s ∧ Bk w4 cA 166 #[.int .i64 (i : Int), .slice VA fn vc] ∧ w4.ownsRow w2.heap.size 3 1 (.slice VA fn vc) fn (vs.map (Value.int .i64)) ∧ Fq [s] w2 w4) := Lib.hid ⟨H4.out.2.1, H4.out.2.2.1, H4.out.2.2.2.1, H4.out.2.2.2.2.1⟩
    clear H4 HK3 HC3 HS3 HQ3 HRD HB3
    have d0 : w4.cell? ⟨hkd, 0, none⟩ = some (.string knm) := HK4.out.cell 0
    have HEND : Hid (∀ (vs2 : List Int) (w5 : World), InR k.fds vs2 → StrSt w5 B s → Bk w5 cA 166 #[.int .i64 (i : Int), .slice VA fn vc] → w5.ownsRow w2.heap.size 3 1 (.slice VA fn vc) fn (vs2.map (Value.int .i64)) → Fq [s] w2 w5 →
        (w5.cell? ⟨cA, 0, none⟩ = some (.int .i64 (i : Int)) ∧ w5.cell? ⟨cA, 1, none⟩ = some (.slice VA fn vc) ∧ w5.cell? ⟨hi, 2, none⟩ = some (.slice CA q cc) ∧ w5.ownsRow base 166 2 (.slice CA q cc) q (cmCs l1) ∧ base ≤ w5.heap.size) ∧
        ∀ g8 c8 w8, w8.ownsRow base 166 2 (.slice (some ⟨g8, 0, none⟩) (q + 1) c8) (q + 1) (cmCs l1 ++ [.int .i64 (i : Int), .slice VA fn vc]) → (w5.alloc (.cells #[.int .i64 (i : Int), .slice VA fn vc] 166)).grownBy w8 (Value.slice CA q cc).ownBlock →
          (w8.cell? ⟨hi, 2, none⟩ = some (.slice CA q cc) ∧ w8.frozen? ⟨hi, 2, none⟩ = false) ∧
          Hid (holdK k.p vs2 = true ∧ VkI (w8.setCell ⟨hi, 2, none⟩ (.slice (some ⟨g8, 0, none⟩) (q + 1) c8)) wI B base s hi e g (some ⟨g8, 0, none⟩) (q + 1) c8 (l1 ++ [(⟨i, VA, vs2.length, vc, vs2⟩ : Cm)]) ∧ KsY (w8.setCell ⟨hi, 2, none⟩ (.slice (some ⟨g8, 0, none⟩) (q + 1) c8)) 0 (some ⟨b, o, none⟩) kn kc ks)) := Lib.hid fun vs2 w5 hin5 hst5 hc5 ho5 hq5 => by
      have hI5 := HI2.out.kx hB hst5 hq5
      have hsz5 : w2.heap.size ≤ w5.heap.size := hq5.size
      refine ⟨⟨hc5.cell 0, hc5.cell 1, hI5.it.cell 2, hI5.own, by have := HW2.out; omega⟩, fun g8 c8 w8 hown8 hg8 => ?_⟩
      have hit8 := (hI5.it.alloc (.cells #[.int .i64 (i : Int), .slice VA fn vc] 166)).grown hg8 (fun e => own_ne hI5.own hI5.it (by decide) e.symm)
      refine ⟨⟨hit8.cell 2, hit8.frozen 2⟩, Lib.hid ?_⟩
      have hBw : B ≤ base := hBb
      have hkx : Kx B [166, 147] w5 (w8.setCell ⟨hi, 2, none⟩ (.slice (some ⟨g8, 0, none⟩) (q + 1) c8)) := ((((Kx.refl (B := B)).alloc _).grown (hI5.own.alloc _) hg8 hBw (by simp)).set hit8 (by omega) (by simp) 2 _)
      have hk0 : Kx 0 [166, 147] w5 (w8.setCell ⟨hi, 2, none⟩ (.slice (some ⟨g8, 0, none⟩) (q + 1) c8)) := hkx.mono (Nat.zero_le _) (fun _ h => h)
      have hcp := own_cap2 ho5
      have hvl : vs2.length = fn := by rw [hin5.1]; exact HLN.out.symm
      refine ⟨(by show holdK (k.nm, k.fds) vs2 = true; rw [HKV.out.1]; exact hin5.hold HON.out.1), ⟨hst5.kx hkx (Nat.le_refl _) (hst5.lo hB) (by decide), by simpa using hit8.set_ 2 (.slice (some ⟨g8, 0, none⟩) (q + 1) c8), ?_, by rw [List.length_append, ← HI.out.len]; rfl, fun z hz => ?_, fun z hz hn b o hA => ?_, ?_⟩, ?_⟩
      · rw [show cmCs (l1 ++ [(⟨i, VA, vs2.length, vc, vs2⟩ : Cm)]) = cmCs l1 ++ [.int .i64 (i : Int), .slice VA fn vc] by simp [cmCs, Cm.cs, hvl]]
        exact own_far hown8 hit8 (by decide) 2 _
      · rcases List.mem_append.1 hz with hz | hz
        · exact (hI5.cm z hz).keep hk0 (by decide)
        · rw [show z = ⟨i, VA, vs2.length, vc, vs2⟩ by simpa using hz]
          refine ⟨?_, rfl, by show vs2.length ≤ vc; omega, hcp.2, wf_i64 (by show _ ≤ ((i : Nat) : Int); omega) (by show ((i : Nat) : Int) ≤ _; omega)⟩
          show RdY _ 0 3 1 VA vs2.length _
          rw [hvl]
          exact (RdY.of_own ho5).keep hk0 (by decide)
      · rcases List.mem_append.1 hz with hz | hz
        · exact HI.out.fr z hz hn b o hA
        · rw [show z = ⟨i, VA, vs2.length, vc, vs2⟩ by simpa using hz] at hA
          have hA : VA = some ⟨b, o, none⟩ := hA
          subst hA
          have := (ho5.lt b rfl).1
          have := HW2.out
          exact .inr (by omega)
      · exact ((hI5.fq.alloc _).grown hg8 (fun g hg => .inr (by have := (hI5.own.lt g hg).1; omega))).set (.inr (by omega)) 2 _
      · exact (HK.out.keep (Kx.fq (B' := 0) (HQ2.out.trans hq5 (SubF.refl _ _)) HI.out.st (Nat.zero_le _)) (by decide) (by decide)).keep hk0 (by decide) (by decide)
    have HFIN : Hid (∀ (vs2 : List Int) (w5 : World), InR k.fds vs2 → vs2.length = fn) := Lib.hid fun vs2 _ h => by rw [h.1]; exact HLN.out.symm
    by_cases hp : knm = kn_p
    · have HFP : Hid (k.fds = kf_p ∧ fn = 3) := Lib.hid (by
        have h1 := HON.out.2 hp
        exact ⟨h1, by rw [HLN.out, h1]; rfl⟩)
      obtain rfl : fn = 3 := HFP.out.2
      have t3 : (knm.toList == kn_p.toList) = true := by rw [hp]; simp
      have t4 : (knm.toList == [112, 108, 97, 99, 101]) = true := by rw [hp]; decide +kernel
      clear hp
      go_upto_region 20 with fail
      refine vdPlace_any (wI := w2) (base := w2.heap.size) HST4.out.1 hB HST4.out.2.1 HST4.out.2.2.1 (by rw [← HFP.out.1]; exact HIN4.out) HWB.out.1 HST4.out.2.2.2 (Nat.le_refl _) ?_
      intros
      rename_i vs2 w5 H5
      have hE := HEND.out vs2 w5 (by rw [HFP.out.1]; exact H5.out.1) H5.out.2.1 H5.out.2.2.1 H5.out.2.2.2.1 H5.out.2.2.2.2.1
      have HE8 := Lib.hid hE.2
      have e0 := hE.1.1
      have e1 := hE.1.2.1
      have e2 := hE.1.2.2.1
      have HOW := Lib.hid hE.1.2.2.2.1
      have hbw : base ≤ w5.heap.size := hE.1.2.2.2.2
      clear hE HEND H5 HST4 HIN4 HK4 d0
      go_wp2_with
        (at_builtin
         go_must (refine wpList_append_one _ rfl (.tmp 95) (.tmp 97) _ rfl base 166 i1 (.agg #[.int .i64 0, .slice none 0 0]) 2 32 Try.underlying38 hi1 hz10 hz11 hz12 rfl (by decide) (.slice CA q cc) q (cmCs l1) rfl (HOW.out.alloc _) w5.heap.size 1 166 #[.int .i64 (i : Int), .slice VA 3 vc] rfl (Bk.new _ _ _) rfl ?c1 (q + 1) rfl ?c2 ?c3 ?c4 ?_)
         case c1 => simp [Value.oneCell']
         case c2 => unfold maxLen; omega
         case c3 => omega
         case c4 => (simp; omega)
         intro g8 c8 w8 hown8 hg8 hat8
         have hE := HE8.out g8 c8 w8 hown8 hg8
         have z0 := hE.1.1
         have z1 := hE.1.2
         have HF := hE.2
         clear hE hown8 hg8 hat8)
      (try simp only [Exit.inBlock, Exit.then])
      first
        | exact HF
        | exact hAdd _ _ _ _ _ _ _ _ _ _ _ _ _ _ _ _ _ _ _ _ _ _ _ _ _ _ _ _ _ _ _ _ _ _ _ _ _ _ _ _ _ _ _ _ _ _ _ _ _ _ _ _ _ _ _ _ _ _ _ _ _ _ HF
    · have t3 : (knm.toList == kn_p.toList) = false := ba_tl_ne hp
      have t4 : (knm.toList == [112, 108, 97, 99, 101]) = false := by (rw [show ([112, 108, 97, 99, 101] : List UInt8) = kn_p.toList by decide +kernel]; exact t3)
      clear hp
      have hE := HEND.out vs w4 HIN4.out HST4.out.1 HST4.out.2.1 HST4.out.2.2.1 HST4.out.2.2.2
      have HE8 := Lib.hid hE.2
      have e0 := hE.1.1
      have e1 := hE.1.2.1
      have e2 := hE.1.2.2.1
      have HOW := Lib.hid hE.1.2.2.2.1
      have hbw : base ≤ w4.heap.size := hE.1.2.2.2.2
      clear hE HEND HST4 HIN4 HK4
      go_wp2_with
        (at_builtin
         go_must (refine wpList_append_one _ rfl (.tmp 95) (.tmp 97) _ rfl base 166 i1 (.agg #[.int .i64 0, .slice none 0 0]) 2 32 Try.underlying38 hi1 hz10 hz11 hz12 rfl (by decide) (.slice CA q cc) q (cmCs l1) rfl (HOW.out.alloc _) w4.heap.size 1 166 #[.int .i64 (i : Int), .slice VA fn vc] rfl (Bk.new _ _ _) rfl ?c1 (q + 1) rfl ?c2 ?c3 ?c4 ?_)
         case c1 => simp [Value.oneCell']
         case c2 => unfold maxLen; omega
         case c3 => omega
         case c4 => (simp; omega)
         intro g8 c8 w8 hown8 hg8 hat8
         have hE := HE8.out g8 c8 w8 hown8 hg8
         have z0 := hE.1.1
         have z1 := hE.1.2
         have HF := hE.2
         clear hE hown8 hg8 hat8)
      (try simp only [Exit.inBlock, Exit.then])
      first
        | exact HF
        | exact hAdd _ _ _ _ _ _ _ _ _ _ _ _ _ _ _ _ _ _ _ _ _ _ _ _ _ _ _ _ _ _ _ _ _ _ _ _ _ _ _ _ _ _ _ _ _ _ _ _ _ _ _ _ _ _ _ _ _ _ _ _ _ _ HF
/-! ### Cc -/
noncomputable def vdKinds : Code := (Try.f54.body.bind (blkN 2)).getD .skip
set_option maxHeartbeats 16000000 in
theorem vdKinds_any {x0 x1 x2 x3 x4 x6 x7 x9 x10 x11 x12 x13 x14 x15 x16 x17 x18 x19 x20 x21 x22 x23 x24 x25 x26 x27 x28 x29 x30 x31 x32 x33 x34 x35 x36 x37 x38 x39 x40 x41 x42 x43 x47 x48 x49 x50 x51 x52 x53 x54 x55 x56 x57 x58 x59 x60 x61 x62 x63 x64 x65 x66 x67 x68 x69 x70 x71 x72 x73 x74 x75 x76 x77 x78 x79 x80 x81 x82 x83 x84 x85 x86 x87 x88 x89 x90 x91 x92 x93 x94 x95 x96 x97 x98 x99 x100 x101 x102 x103 x104 x105 x106 x107 x108 : Value} {Q : Exit → Act → World → Prop} {wI w0 : World} {B base s hi kn kc : Nat} {kA : Option Addr} {ks : List Kd} {e g : Int}
    (hk : KsY w0 0 kA kn kc ks) (hone : ∀ k ∈ ks, oneF k.nm k.fds = 0) (hpl : ∀ k ∈ ks, k.nm = kn_p → k.fds = kf_p) (hI : VkI w0 wI B base s hi e g none 0 0 [])
    (hB : B ≤ s) (hBb : B ≤ base) (hbI : wI.heap.size ≤ base) (hhi : base ≤ hi) (hb0 : base ≤ w0.heap.size) (hn : kn ≤ 16)
    (hN : ∀ (y9 y10 y11 y13 y46 y47 y48 y49 y50 y51 y52 y53 y54 y55 y56 y57 y58 y59 y60 y61 y62 y63 y64 y65 y66 y67 y68 y69 y70 y71 y72 y73 y74 y75 y76 y77 y78 y79 y80 y81 y82 y83 y84 y85 y86 y87 y88 y89 y90 y91 y92 y93 y94 y95 y96 y97 y98 y99 y100 : Value) (CA : Option Addr) (q cc : Nat) (l1 : List Cm) (w' : World), Hid (q ≤ kn ∧ VkI w' wI B base s hi e g CA q cc l1 ∧ VCs holdK (ks.map Kd.p) (l1.map Cm.p) ∧ KsY w' 0 kA kn kc ks) → Q .normal ⟨#[x0, x1, x2, x3, x4, .pointer (some ⟨s, 0, none⟩), x6, x7, .pointer (some ⟨hi, 0, none⟩), y9, y10, y11, x12, y13, x14, x15, x16, x17, x18, x19, x20, x21, x22, x23, x24, x25, x26, x27, x28, x29, x30, x31, x32, x33, x34, x35, x36, x37, x38, x39, x40, x41, x42, x43, .slice kA kn kc, .int .i64 (kn : Int), y46, y47, y48, y49, y50, y51, y52, y53, y54, y55, y56, y57, y58, y59, y60, y61, y62, y63, y64, y65, y66, y67, y68, y69, y70, y71, y72, y73, y74, y75, y76, y77, y78, y79, y80, y81, y82, y83, y84, y85, y86, y87, y88, y89, y90, y91, y92, y93, y94, y95, y96, y97, y98, y99, y100, x101, x102, x103, x104, x105, x106, x107, x108], []⟩ w') :
    Code.wp Try.prog vdKinds Q ⟨#[x0, x1, x2, x3, x4, .pointer (some ⟨s, 0, none⟩), x6, x7, .pointer (some ⟨hi, 0, none⟩), x9, x10, x11, x12, x13, x14, x15, x16, x17, x18, x19, x20, x21, x22, x23, x24, x25, x26, x27, x28, x29, x30, x31, x32, x33, x34, x35, x36, x37, x38, x39, x40, x41, x42, x43, .slice kA kn kc, .int .i64 (kn : Int), .int .i64 0, x47, x48, x49, x50, x51, x52, x53, x54, x55, x56, x57, x58, x59, x60, x61, x62, x63, x64, x65, x66, x67, x68, x69, x70, x71, x72, x73, x74, x75, x76, x77, x78, x79, x80, x81, x82, x83, x84, x85, x86, x87, x88, x89, x90, x91, x92, x93, x94, x95, x96, x97, x98, x99, x100, x101, x102, x103, x104, x105, x106, x107, x108], []⟩ w0 := by
  conv => arg 2; whnf
  have HK := Lib.hid hk
  have HON := Lib.hid hone
  have HPL := Lib.hid hpl
  have HI := Lib.hid hI
  have hcap := hk.cap
  have hcap2 := hk.cap2
  have HLK : Hid (kn = ks.length) := Lib.hid hk.len
  clear hk hone hpl hI
  go_wp2_with fail
  go_loopw [46] (fun jv wx => ∃ (i q cc : Nat) (CA : Option Addr) (l1 : List Cm), i ≤ kn ∧ q ≤ i ∧ jv = .int .i64 i ∧ Hid (VkI wx wI B base s hi e g CA q cc l1 ∧ CwI holdK (ks.map Kd.p) i (l1.map Cm.p) ∧ KsY wx 0 kA kn kc ks ∧ base ≤ wx.heap.size)) (fun jv _ => kn - (intOf jv).toNat)
  case atStart => exact ⟨0, 0, 0, none, [], Nat.zero_le _, Nat.le_refl _, rfl, Lib.hid ⟨HI.out, CwI.zero, HK.out, hb0⟩⟩
  case round =>
    obtain ⟨i, q, cc, CA, l1, hile, hqi, rfl, HV⟩ := hrel
    by_cases hlt : i < kn
    · obtain ⟨k, hk⟩ : ∃ k, ks[i]? = some k := ⟨_, List.getElem?_eq_getElem (by have := HLK.out; omega)⟩
      have hiz : (i : Int) < kn := by omega
      have HKK := Lib.hid hk
      have HO1 := Lib.hid (HON.out k (List.mem_of_getElem? hk))
      have HP1 := Lib.hid (HPL.out k (List.mem_of_getElem? hk))
      clear hk
      go_upto_if 47 with fail
      first
        | (go_step; refine vdKind_any HV.out.2.2.1 HKK.out HO1.out HP1.out HV.out.1 hB hBb hbI hhi (by omega) HV.out.2.2.2 (by omega) ?_ ?_)
        | (go_step; go_step; refine vdKind_any HV.out.2.2.1 HKK.out HO1.out HP1.out HV.out.1 hB hBb hbI hhi (by omega) HV.out.2.2.2 (by omega) ?_ ?_)
        | (go_step; go_step; go_step; refine vdKind_any HV.out.2.2.1 HKK.out HO1.out HP1.out HV.out.1 hB hBb hbI hhi (by omega) HV.out.2.2.2 (by omega) ?_ ?_)
        | (go_step; go_step; go_step; go_step; refine vdKind_any HV.out.2.2.1 HKK.out HO1.out HP1.out HV.out.1 hB hBb hbI hhi (by omega) HV.out.2.2.2 (by omega) ?_ ?_)
        | (go_step; go_step; go_step; go_step; go_step; refine vdKind_any HV.out.2.2.1 HKK.out HO1.out HP1.out HV.out.1 hB hBb hbI hhi (by omega) HV.out.2.2.2 (by omega) ?_ ?_)
      · intros
        rename_i w7 H7
        have HVN : Hid (VkI w7 wI B base s hi e g CA q cc l1 ∧ CwI holdK (ks.map Kd.p) (i + 1) (l1.map Cm.p) ∧ KsY w7 0 kA kn kc ks ∧ base ≤ w7.heap.size) := Lib.hid ⟨H7.out.1, HV.out.2.1.skip, HV.out.2.2.1.keep (Kx.fq (B' := 0) H7.out.2 HV.out.1.st (Nat.zero_le _)) (by decide) (by decide), Nat.le_trans HV.out.2.2.2 H7.out.2.size⟩
        clear HV H7
        go_wp2_with fail
        go_roundw
        case rel => exact ⟨i + 1, q, cc, CA, l1, by omega, by omega, by go_num, HVN⟩
        case measure => simp [intOf]; omega
      · intros
        rename_i vs VA vc gA cA w7 H7
        have HVN : Hid (VkI w7 wI B base s hi e g (some ⟨gA, 0, none⟩) (q + 1) cA (l1 ++ [(⟨i, VA, vs.length, vc, vs⟩ : Cm)]) ∧ CwI holdK (ks.map Kd.p) (i + 1) ((l1 ++ [(⟨i, VA, vs.length, vc, vs⟩ : Cm)]).map Cm.p) ∧ KsY w7 0 kA kn kc ks ∧ base ≤ w7.heap.size) := Lib.hid ⟨H7.out.2.1, by
          rw [List.map_append]
          exact HV.out.2.1.keep (d := k.p) (by rw [List.getElem?_map, HKK.out]; rfl) H7.out.1, H7.out.2.2, by have h1 := H7.out.2.1.it.lt; omega⟩
        clear HV H7
        go_wp2_with fail
        go_roundw
        case rel => exact ⟨i + 1, q + 1, cA, some ⟨gA, 0, none⟩, l1 ++ [(⟨i, VA, vs.length, vc, vs⟩ : Cm)], by omega, by omega, by go_num, HVN⟩
        case measure => simp [intOf]; omega
    · obtain rfl : kn = i := by omega
      have HR : Hid (q ≤ kn ∧ VkI wr wI B base s hi e g CA q cc l1 ∧ VCs holdK (ks.map Kd.p) (l1.map Cm.p) ∧ KsY wr 0 kA kn kc ks) := Lib.hid ⟨hqi, HV.out.1, CwI.done HV.out.2.1, HV.out.2.2.1⟩
      clear HV
      go_wp2_with fail
      (try simp only [Exit.inBlock, Exit.then])
      first
        | exact HR
        | exact hN _ _ _ _ _ _ _ _ _ _ _ _ _ _ _ _ _ _ _ _ _ _ _ _ _ _ _ _ _ _ _ _ _ _ _ _ _ _ _ _ _ _ _ _ _ _ _ _ _ _ _ _ _ _ _ _ _ _ _ CA q cc l1 _ HR
/-! ### Mu -/
/-- The frame of a world that is made. -/
structure WI (r ho base : Nat) (wr : World) (kA : Option Addr) (kn kc : Nat) (ks : List Kd) (GA : Option Addr) (n gc : Nat) (G : List Int) (IA : Option Addr) (q ic : Nat) (its : List It) : Prop where
  bR : Bk wr r 52 #[.slice none 0 0, .slice none 0 0, .slice none 0 0]
  bo : Bk wr ho 52 #[.slice kA kn kc, .slice GA n gc, .slice IA q ic]
  ks : KsY wr 0 kA kn kc ks
  gown : wr.ownsRow base 3 1 (.slice GA n gc) n (G.map (Value.int .i64))
  iown : wr.ownsRow base 147 3 (.slice IA q ic) q (itCs its)
  len : q = its.length
  iok : ∀ it ∈ its, ItY wr 0 it
  nob : ∀ it ∈ its, NoB (Value.slice GA n gc).ownBlock it.cms
  hro : r < ho
section
variable {r ho base : Nat} {wr w' : World} {kA : Option Addr} {kn kc : Nat} {ks : List Kd} {GA : Option Addr} {n gc : Nat} {G : List Int} {IA : Option Addr} {q ic : Nat} {its : List It}
theorem WI.kx {B : Nat} {F : List TypeId} (H : WI r ho base wr kA kn kc ks GA n gc G IA q ic its) (hq : Kx B F wr w') (h52 : (52 : TypeId) ∉ F) (h63 : (63 : TypeId) ∉ F) (h66 : (66 : TypeId) ∉ F) (h3 : (3 : TypeId) ∉ F) (h147 : (147 : TypeId) ∉ F) (h166 : (166 : TypeId) ∉ F) : WI r ho base w' kA kn kc ks GA n gc G IA q ic its :=
  ⟨hq.bk H.bR h52, hq.bk H.bo h52, H.ks.keep (hq.mono (Nat.zero_le _) (fun _ h => h)) h66 h63, hq.own H.gown h3, hq.own H.iown h147, H.len, fun it hit => (H.iok it hit).keep (hq.mono (Nat.zero_le _) (fun _ h => h)) h3 h166, H.nob, H.hro⟩
theorem WI.item (H : WI r ho base wr kA kn kc ks GA n gc G IA q ic its) {w8 : World} {g8 c8 : Nat} {it : It} {o : Obj} (hi : ItY wr 0 it) (hno : NoB (Value.slice GA n gc).ownBlock it.cms)
    (hown8 : w8.ownsRow base 147 3 (.slice (some ⟨g8, 0, none⟩) (q + 1) c8) (q + 1) (itCs its ++ [.int .i64 it.e, .int .i64 it.g, .slice it.A it.n it.c])) (hg8 : (wr.alloc o).grownBy w8 (Value.slice IA q ic).ownBlock) :
    WI r ho base (w8.setCell ⟨ho, 2, none⟩ (.slice (some ⟨g8, 0, none⟩) (q + 1) c8)) kA kn kc ks GA n gc G (some ⟨g8, 0, none⟩) (q + 1) c8 (its ++ [it]) ∧ Kx 0 [147, 52] wr (w8.setCell ⟨ho, 2, none⟩ (.slice (some ⟨g8, 0, none⟩) (q + 1) c8)) := by
  have hq7 : Kx 0 [147] wr w8 := ((Kx.refl (B := 0)).alloc _).grown (H.iown.alloc _) hg8 (Nat.zero_le _) (by simp)
  have bo := hq7.bk H.bo (by decide)
  have hset : Kx 0 [52] w8 (w8.setCell ⟨ho, 2, none⟩ (.slice (some ⟨g8, 0, none⟩) (q + 1) c8)) := Kx.set Kx.refl bo (Nat.zero_le _) (by simp) 2 _
  have hh := H.hro
  refine ⟨⟨(hq7.bk H.bR (by decide)).far (p := ⟨ho, 2, none⟩) (by show r ≠ ho; omega) _, by simpa using bo.set_ 2 (.slice (some ⟨g8, 0, none⟩) (q + 1) c8),
    (H.ks.keep hq7 (by decide) (by decide)).keep hset (by decide) (by decide), hset.own (hq7.own H.gown (by decide)) (by decide), ?_, by simp [H.len], fun x hx => ?_, fun x hx => ?_, H.hro⟩, (hq7.mono (Nat.le_refl _) (by simp)).trans (hset.mono (Nat.le_refl _) (by simp))⟩
  · rw [itCs_snoc]; exact hset.own hown8 (by decide)
  · rcases List.mem_append.1 hx with hx | hx
    · exact ((H.iok x hx).keep hq7 (by decide) (by decide)).keep hset (by decide) (by decide)
    · rw [show x = it by simpa using hx]; exact (hi.keep hq7 (by decide) (by decide)).keep hset (by decide) (by decide)
  · rcases List.mem_append.1 hx with hx | hx
    · exact H.nob x hx
    · rw [show x = it by simpa using hx]; exact hno
theorem WI.gen (H : WI r ho base wr kA kn kc ks GA n gc G IA q ic its) {w9 : World} {g9 c9 : Nat} {gg : Int} {o : Obj}
    (hown9 : w9.ownsRow base 3 1 (.slice (some ⟨g9, 0, none⟩) (n + 1) c9) (n + 1) (G.map (Value.int .i64) ++ [.int .i64 gg])) (hg9 : (wr.alloc o).grownBy w9 (Value.slice GA n gc).ownBlock) (hat : (Value.slice GA n gc).ownBlock = some g9 ∨ g9 = (wr.alloc o).heap.size) :
    WI r ho base (w9.setCell ⟨ho, 1, none⟩ (.slice (some ⟨g9, 0, none⟩) (n + 1) c9)) kA kn kc ks (some ⟨g9, 0, none⟩) (n + 1) c9 (G ++ [gg]) IA q ic its ∧ Kx 0 [3, 52] wr (w9.setCell ⟨ho, 1, none⟩ (.slice (some ⟨g9, 0, none⟩) (n + 1) c9)) := by
  have hal : Kx 0 [3] wr (wr.alloc o) := (Kx.refl (B := 0)).alloc _
  have hq7 : Kx 0 [3] wr w9 := hal.grown (H.gown.alloc _) hg9 (Nat.zero_le _) (by simp)
  have bo := hq7.bk H.bo (by decide)
  have hset : Kx 0 [52] w9 (w9.setCell ⟨ho, 1, none⟩ (.slice (some ⟨g9, 0, none⟩) (n + 1) c9)) := Kx.set Kx.refl bo (Nat.zero_le _) (by simp) 1 _
  have hh := H.hro
  have hal0 : Kx 0 [] wr (wr.alloc o) := (Kx.refl (B := 0)).alloc _
  refine ⟨⟨(hq7.bk H.bR (by decide)).far (p := ⟨ho, 1, none⟩) (by show r ≠ ho; omega) _, by simpa using bo.set_ 1 (.slice (some ⟨g9, 0, none⟩) (n + 1) c9),
    (H.ks.keep hq7 (by decide) (by decide)).keep hset (by decide) (by decide), ?_, hset.own (hq7.own H.iown (by decide)) (by decide), H.len, fun x hx => ?_, fun x hx => ?_, H.hro⟩, (hq7.mono (Nat.le_refl _) (by simp)).trans (hset.mono (Nat.le_refl _) (by simp))⟩
  · rw [List.map_append]; exact hset.own hown9 (by decide)
  · exact (((H.iok x hx).keep hal0 (by simp) (by simp)).grown3 (H.gown.alloc _) hg9 (Nat.zero_le _) (H.nob x hx)).keep hset (by decide) (by decide)
  · refine NoB.grown ((H.iok x hx).keep hal0 (by simp) (by simp)) (H.nob x hx) ?_
    rcases hat with h1 | h1
    · exact .inl h1.symm
    · exact .inr (by rw [h1]; rfl)
end
/-! ### Cd -/
set_option maxHeartbeats 16000000 in
theorem kworld_any (A : Option Addr) (n c B : Nat) (zs : List Int) (w : World) {kA sA pA : Option Addr} {kn kc sn sc pn pc : Nat} {g0 g1 g2 g3 g4 g5 : Int} {ks : List Kd} (hr : Rd w B 1 A n (zs.map (Value.int .i64))) (hn : n = zs.length) (hnc : n ≤ c) (hc : c ≤ 9223372036854775807) (hz : ∀ z ∈ zs, (Lit.int .i64 z).wf = true) (hB : B ≤ w.heap.size)
    (hk : KsY w 0 kA kn kc ks) (hone : ∀ k ∈ ks, oneF k.nm k.fds = 0) (hpl : ∀ k ∈ ks, k.nm = kn_p → k.fds = kf_p) (hkn : kn ≤ 16) :
    Calls Try.prog 54 #[.agg #[.slice kA kn kc, .slice sA sn sc, .slice pA pn pc, .int .i64 g0, .int .i64 g1, .int .i64 g2, .int .i64 g3, .int .i64 g4, .int .i64 g5], .slice A n c] w fun e w' => ∃ y : Wd, e = .returned y.v ∧ Hid ((WdY w' 0 y ∧ VW holdK y.p) ∧ y.kA = kA ∧ y.kn = kn ∧ y.kc = kc ∧ y.ks = ks ∧ y.its.length ≤ 5 ∧ y.gens.length ≤ 5) ∧ Below w.heap.size w w' := by
  obtain ⟨W0, hW0⟩ : ∃ W0, W0 = (((w.alloc (.cells #[.slice kA kn kc, .slice sA sn sc, .slice pA pn pc, .int .i64 g0, .int .i64 g1, .int .i64 g2, .int .i64 g3, .int .i64 g4, .int .i64 g5] 110)).alloc (.cells #[.slice none 0 0, .slice none 0 0, .slice none 0 0] 52)).alloc (.cells #[.slice A n c] 189)).alloc (.cells #[.slice kA kn kc, .slice none 0 0, .slice none 0 0] 52) := ⟨_, rfl⟩
  have hb0 : Below w.heap.size w W0 := by rw [hW0]; exact Below.al (Below.al (Below.al (Below.al (Below.refl _ _) _) _) _) _
  have hbG : Bk W0 w.heap.size 110 #[.slice kA kn kc, .slice sA sn sc, .slice pA pn pc, .int .i64 g0, .int .i64 g1, .int .i64 g2, .int .i64 g3, .int .i64 g4, .int .i64 g5] := by rw [hW0]; exact (((Bk.new _ _ _).alloc _).alloc _).alloc _
  have hbR : Bk W0 (w.heap.size + 1) 52 #[.slice none 0 0, .slice none 0 0, .slice none 0 0] := by rw [hW0]; exact ((Bk.two _ _ _ _).alloc _).alloc _
  have hbS : Bk W0 (w.heap.size + 2) 189 #[.slice A n c] := by rw [hW0]; exact (by have h := Bk.new ((w.alloc (.cells #[.slice kA kn kc, .slice sA sn sc, .slice pA pn pc, .int .i64 g0, .int .i64 g1, .int .i64 g2, .int .i64 g3, .int .i64 g4, .int .i64 g5] 110)).alloc (.cells #[.slice none 0 0, .slice none 0 0, .slice none 0 0] 52)) 189 #[.slice A n c]; simpa using h : Bk (((w.alloc (.cells #[.slice kA kn kc, .slice sA sn sc, .slice pA pn pc, .int .i64 g0, .int .i64 g1, .int .i64 g2, .int .i64 g3, .int .i64 g4, .int .i64 g5] 110)).alloc (.cells #[.slice none 0 0, .slice none 0 0, .slice none 0 0] 52)).alloc (.cells #[.slice A n c] 189)) (w.heap.size + 2) 189 #[.slice A n c]).alloc _
  have hbO : Bk W0 (w.heap.size + 2 + 1) 52 #[.slice kA kn kc, .slice none 0 0, .slice none 0 0] := by rw [hW0]; have h := Bk.new (((w.alloc (.cells #[.slice kA kn kc, .slice sA sn sc, .slice pA pn pc, .int .i64 g0, .int .i64 g1, .int .i64 g2, .int .i64 g3, .int .i64 g4, .int .i64 g5] 110)).alloc (.cells #[.slice none 0 0, .slice none 0 0, .slice none 0 0] 52)).alloc (.cells #[.slice A n c] 189)) 52 #[.slice kA kn kc, .slice none 0 0, .slice none 0 0]; simpa using h
  have hst : StrSt W0 B (w.heap.size + 2) := ⟨A, n, c, zs, hbS, hn, hnc, hc, hr.below (hb0.mono hB), hz⟩
  obtain ⟨s, hs⟩ : ∃ s, s = w.heap.size + 2 := ⟨_, rfl⟩
  obtain ⟨ho, hho⟩ : ∃ z, z = s + 1 := ⟨_, rfl⟩
  obtain ⟨r, hhr⟩ : ∃ s, s = w.heap.size + 1 := ⟨_, rfl⟩
  rw [← hs] at hst
  rw [← hs, ← hho] at hbO
  rw [← hhr] at hbR
  have hBs : B ≤ s := by omega
  have hsz0 : W0.heap.size = w.heap.size + 4 := by rw [hW0]; simp
  have HNX := Lib.hid next_any
  have HB0 := Lib.hid hb0
  have HBG := Lib.hid hbG
  have HST := Lib.hid hst
  have HKS : Hid (KsY W0 0 kA kn kc ks) := Lib.hid (hk.keep (F := []) (Kx.of_below (B := 0) hb0) (by simp) (by simp))
  have HI0 : Hid (WI r ho W0.heap.size W0 kA kn kc ks none 0 0 [] none 0 0 []) := Lib.hid ⟨hbR, hbO, HKS.out, World.ownsRow_nil _ _ _ _, World.ownsRow_nil _ _ _ _, rfl, (fun x hx => by cases hx), (fun x hx => by cases hx), by omega⟩
  have HON := Lib.hid hone
  have HPL := Lib.hid hpl
  have HCP := Lib.hid (And.intro hk.cap hk.cap2)
  have HLK := Lib.hid hk.len
  have hrs : r < s := by omega
  have hso : s < ho := by omega
  have hoW : ho < W0.heap.size := by omega
  have hwr : w.heap.size < r := by omega
  have HEQ := Lib.hid (And.intro hs (And.intro hho hhr))
  have HE3 : Hid (w.heap.size + 1 + 1 + 1 = ho ∧ w.heap.size + 2 + 1 = ho ∧ w.heap.size + 3 = ho ∧ w.heap.size + 1 + 1 = s ∧ w.heap.size + 2 = s ∧ w.heap.size + 1 = r) := Lib.hid (by omega)
  have hwW : w.heap.size < W0.heap.size := by omega
  clear hr hn hnc hc hz hb0 hbR hbS hbO hbG hst hk hone hpl HKS hs hho hhr
  go_enter Try.func54, Try.ntmps54
  go_upto_region 3 with fail
  rw [← hW0]
  clear hW0
  (try rw [HE3.out.1])
  (try rw [HE3.out.2.1])
  (try rw [HE3.out.2.2.1])
  (try rw [HE3.out.2.2.2.1])
  (try rw [HE3.out.2.2.2.2.1])
  (try rw [HE3.out.2.2.2.2.2])
  go_wp2_with fail
  (with_reducible refine (HNX.out s B 6 _ HST.out hBs (by omega) (by omega)).mono ?_)
  rintro e w3 ⟨v, rfl, hv0, hv1, hst3, hg3⟩
  obtain ⟨N, rfl⟩ : ∃ N : Nat, v = N := ⟨v.toNat, by omega⟩
  have HQ3 : Hid (Fq [s, ho] W0 w3) := Lib.hid (Fq.refl.grown hg3 fun g hg => .inl (by injection hg with hg; simp [hg]))
  have hk23 : Kx 0 [189] W0 w3 := Kx.fq (B' := 0) (Fq.refl.grown hg3 fun g hg => .inl (by injection hg with hg; simp [hg])) HST.out (Nat.zero_le _)
  have HI3 : Hid (WI r ho W0.heap.size w3 kA kn kc ks none 0 0 [] none 0 0 []) := Lib.hid (HI0.out.kx hk23 (by decide) (by decide) (by decide) (by decide) (by decide) (by decide))
  have HS3 := Lib.hid hst3
  have hN12 : N < 6 := by omega
  clear hst3 hg3 hk23 HI0 hv0 hv1
  go_wp2_with fail
  go_loopw [22] (fun iv wr => ∃ (i q gc ic : Nat) (GA IA : Option Addr) (G : List Int) (its : List It), i ≤ N ∧ q ≤ i ∧ iv = .int .i64 i ∧ Hid (WI r ho W0.heap.size wr kA kn kc ks GA i gc G IA q ic its ∧ WwI holdK (ks.map Kd.p) i G (its.map It.p)) ∧ Hid (StrSt wr B s) ∧ Hid (Fq [s, ho] W0 wr)) (fun iv _ => N - (intOf iv).toNat)
  case atStart => exact ⟨0, 0, 0, 0, none, none, [], [], Nat.zero_le _, Nat.le_refl _, rfl, Lib.hid ⟨HI3.out, WwI.zero⟩, HS3, HQ3⟩
  case round =>
    clear HI3 HS3 HQ3
    obtain ⟨i, q, gc, ic, GA, IA, G, its, hi, hqi, rfl, HI, HSt, HQ⟩ := hrel
    by_cases hlt : i < N
    · have hiz : (i : Int) < N := by omega
      have s1 : wr.drew.cell? ⟨ho, 1, none⟩ = some (.slice GA i gc) := HI.out.1.bo.cell 1
      obtain ⟨i3, hi3, hz30, hz31, hz32⟩ := info_parts T.info3
      go_wp2_with fail
      refine wp_region_E (S := fun wx => wx.cell? ⟨ho, 1, none⟩ = some (.slice GA i gc)) (last := 7) (by kernel_rfl) ?_
      refine wpAnyE_val (i := 0) (v := .pointer (some ⟨ho, 1, none⟩)) (d := some 25) rfl rfl (by kernel_rfl) (by kernel_rfl) (by kernel_rfl) (by kernel_rfl) (fun _ _ _ h => h) (Or.inl ⟨by rfl, fun w _ => by go_simp⟩) s1 ?_
      (try simp only [Act.put, List.setIfInBounds_toArray, List.set_cons_zero, List.set_cons_succ])
      refine wpAnyE_val (i := 1) (v := .slice GA i gc) (d := some 26) rfl rfl (by kernel_rfl) (by kernel_rfl) (by kernel_rfl) (by kernel_rfl) (fun _ _ _ h => h) (Or.inl ⟨by rfl, fun w hS => by go_simp⟩) s1 ?_
      (try simp only [Act.put, List.setIfInBounds_toArray, List.set_cons_zero, List.set_cons_succ])
      refine wpAnyE_val (i := 2) (v := .pointer (some ⟨s, 0, none⟩)) (d := some 27) rfl rfl (by kernel_rfl) (by kernel_rfl) (by kernel_rfl) (by kernel_rfl) (fun _ _ _ h => h) (Or.inl ⟨by rfl, fun w _ => by go_simp⟩) s1 ?_
      (try simp only [Act.put, List.setIfInBounds_toArray, List.set_cons_zero, List.set_cons_succ])
      have hws : W0.heap.size ≤ wr.heap.size := HQ.out.size
      have hsd : StrSt wr.drew B s := HSt.out.below (Below.refl _ _).drew (HSt.out.lo hBs)
      refine wpAnyE_one (i := 3) rfl (by kernel_rfl) rfl ?_
      go_simp
      (with_reducible refine (HNX.out s B 2 _ hsd hBs (by omega) (by omega)).mono ?_)
      rintro e w4 ⟨v, rfl, hv0, hv1, hst4, hg4⟩
      have hk4 : Kx 0 [189] wr w4 := Kx.fq (B' := 0) ((Fq.refl (w := wr)).drew.grown hg4 fun g hg => .inl (by injection hg with hg; simp [hg])) HSt.out (Nat.zero_le _)
      have HI4 := Lib.hid (HI.out.1.kx hk4 (by decide) (by decide) (by decide) (by decide) (by decide) (by decide))
      have HQ4 : Hid (Fq [s, ho] W0 w4) := Lib.hid (HQ.out.drew.grown hg4 fun g hg => .inl (by injection hg with hg; simp [hg]))
      have HS4 := Lib.hid hst4
      have s4 : w4.cell? ⟨ho, 1, none⟩ = some (.slice GA i gc) := HI4.out.bo.cell 1
      have hw4 : W0.heap.size ≤ w4.heap.size := HQ4.out.size
      clear hk4 hst4 hg4 hsd
      refine ⟨s4, ?_⟩
      (try simp only [Act.put, List.setIfInBounds_toArray, List.set_cons_zero, List.set_cons_succ])
      refine wpAnyE_one (i := 4) rfl (by kernel_rfl) rfl ?_
      go_simp
      have s5 : (w4.alloc (.cells #[.int .i64 v] 3)).cell? ⟨ho, 1, none⟩ = some (.slice GA i gc) := (HI4.out.bo.alloc _).cell 1
      refine ⟨s5, ?_⟩
      (try simp only [Act.put, List.setIfInBounds_toArray, List.set_cons_zero, List.set_cons_succ])
      refine wpAnyE_if (i := 5) rfl (by kernel_rfl) rfl ?_
      refine step_append_one rfl (.tmp 26) (.tmp 29) 30 rfl W0.heap.size 3 i3 (.int .i64 0) 1 8 Try.underlying30 hi3 hz30 hz31 hz32 rfl (by decide) (.slice GA i gc) i (G.map (Value.int .i64)) rfl (HI4.out.gown.alloc _) w4.heap.size 1 3 #[.int .i64 v] rfl (Bk.new w4 _ _) rfl ?c1 (i + 1) rfl ?c2 ?c3 ?c4 ?_
      case c1 => simp [Value.oneCell']
      case c2 => unfold maxLen; omega
      case c3 => omega
      case c4 => (simp; omega)
      intro g9 c9 w9 hown9 hg9 hat9
      have hbo9 : Bk w9 ho 52 #[.slice kA kn kc, .slice GA i gc, .slice IA q ic] := (HI4.out.bo.alloc _).grown hg9 (fun e => own_ne HI4.out.gown HI4.out.bo (by decide) e.symm)
      have s9 : w9.cell? ⟨ho, 1, none⟩ = some (.slice GA i gc) := hbo9.cell 1
      have f9 := hbo9.frozen 1
      refine ⟨fun _ => s9, ?_⟩
      (try simp only [Act.put, List.setIfInBounds_toArray])
      refine wpAnyE_val (i := 6) (v := .pointer (some ⟨ho, 1, none⟩)) (d := some 31) rfl rfl (by kernel_rfl) (by kernel_rfl) (by kernel_rfl) (by kernel_rfl) (fun _ _ _ h => h) (Or.inl ⟨by rfl, fun w _ => by go_simp⟩) s9 ?_
      (try simp only [Act.put])
      refine wpAnyE_one (i := 7) rfl (by kernel_rfl) rfl ?_
      go_simp
      refine wpAnyE_done (by kernel_rfl) ?_ _
      have hWG := HI4.out.gen hown9 hg9 (by rcases hat9 with h | h; exact .inl h; exact .inr h)
      obtain ⟨w5, hw5⟩ : ∃ w5, w5 = w9.setCell ⟨ho, 1, none⟩ (.slice (some ⟨g9, 0, none⟩) (i + 1) c9) := ⟨_, rfl⟩
      have hB0 : B ≤ W0.heap.size := by omega
      have hB1 : B ≤ ho := by omega
      have hkB : Kx B [3, 52] w4 w5 := by rw [hw5]; exact (((Kx.refl (B := B)).alloc _).grown (HI4.out.gown.alloc _) hg9 hB0 (by simp)).set hbo9 hB1 (by simp) 1 _
      have HS5 : Hid (StrSt w5 B s) := Lib.hid (HS4.out.kx hkB (Nat.le_refl _) (HS4.out.lo hBs) (by decide))
      have HQ5 : Hid (Fq [s, ho] W0 w5) := Lib.hid (by rw [hw5]; exact ((HQ4.out.alloc _).grown hg9 (fun g hg => .inr (HI4.out.gown.lt g hg).1)).set (.inl (by simp)) 1 _)
      rw [← hw5] at hWG ⊢
      have HI5 := Lib.hid hWG.1
      have HW5 : Hid (WwI holdK (ks.map Kd.p) (i + 1) (G ++ [v]) (its.map It.p)) := Lib.hid (HI.out.2.gen hv0 (by omega))
      have HWO := Lib.hid HI.out.2
      clear hWG hkB hown9 hg9 hat9 hbo9 s9 f9 s4 s5 s1 hw5 HI4 HS4 HQ4 HI HSt HQ
      go_wp2_with fail
      (with_reducible refine (HNX.out s B 5 _ HS5.out hBs (by omega) (by omega)).mono ?_)
      rintro e w6 ⟨u, rfl, hu0, hu1, hst6, hg6⟩
      have hk6 : Kx 0 [189] w5 w6 := Kx.fq (B' := 0) ((Fq.refl (w := w5)).grown hg6 fun g hg => .inl (by injection hg with hg; simp [hg])) HS5.out (Nat.zero_le _)
      have HI6 := Lib.hid (HI5.out.kx hk6 (by decide) (by decide) (by decide) (by decide) (by decide) (by decide))
      have HQ6 : Hid (Fq [s, ho] W0 w6) := Lib.hid (HQ5.out.grown hg6 fun g hg => .inl (by injection hg with hg; simp [hg]))
      have HS6 := Lib.hid hst6
      clear hk6 hst6 hg6 HI5 HQ5 HS5
      by_cases hu3 : u = 4
      · have t3 : (u == 4) = true := by simp [hu3]
        clear hu3
        go_wp2_with fail
        go_roundw
        case rel => first | exact ⟨i + 1, q, c9, ic, some ⟨g9, 0, none⟩, IA, G ++ [v], its, by omega, by omega, by go_num, Lib.hid ⟨HI6.out, HW5.out⟩, HS6, HQ6⟩ | ((repeat apply Exists.intro); (refine And.intro ?_ ?_); rotate_left; (focus (repeat' first | exact rfl | apply And.intro)); exact ⟨i + 1, q, c9, ic, some ⟨g9, 0, none⟩, IA, G ++ [v], its, by omega, by omega, by go_num, Lib.hid ⟨HI6.out, HW5.out⟩, HS6, HQ6⟩)
        case measure => simp [intOf]; omega
      · have t3 : (u == 4) = false := by simp [hu3]
        have e1 : w6.cell? ⟨ho, 1, none⟩ = some (.slice (some ⟨g9, 0, none⟩) (i + 1) c9) := HI6.out.bo.cell 1
        clear hu3
        have hgi : w6.cell? ⟨g9, i, none⟩ = some (.int .i64 v) := by
          obtain ⟨b, o, hA, _, hcell⟩ := (Rd.of_own HI6.out.gown).at1 (k := i) (by omega) (u := .int .i64 v) (by
            rw [List.map_append, List.getElem?_append_right (by rw [List.length_map, HWO.out.len]; omega), List.length_map, HWO.out.len]; simp)
          injection hA with hA
          injection hA with h1 h2
          subst h1; subst h2
          rw [Nat.zero_add] at hcell
          exact hcell
        have hg9 := (HI6.out.gown.lt g9 rfl)
        have hi1z : (i : Int) < (i : Int) + 1 := by omega
        have hi0z : (0 : Int) ≤ i := by omega
        have hBG6 : Bk w6 w.heap.size 110 #[.slice kA kn kc, .slice sA sn sc, .slice pA pn pc, .int .i64 g0, .int .i64 g1, .int .i64 g2, .int .i64 g3, .int .i64 g4, .int .i64 g5] := (HQ6.out.low _ HBG.out.lt (by simp; omega)).trans HBG.out
        obtain ⟨w7, hw7⟩ : ∃ z, z = w6.alloc (.cells #[.int .i64 (i : Int), .int .i64 v, .slice none 0 0] 147) := ⟨_, rfl⟩
        obtain ⟨hi_, hhi⟩ : ∃ z, z = w6.heap.size := ⟨_, rfl⟩
        have HB7 : Hid (Below w6.heap.size w6 w7) := Lib.hid (by rw [hw7]; exact (Below.refl _ _).alloc (Nat.le_refl _) _)
        have HH7 : Hid (Bk w7 hi_ 147 #[.int .i64 (i : Int), .int .i64 v, .slice none 0 0]) := Lib.hid (by rw [hw7, hhi]; exact Bk.new _ _ _)
        have g1 : (w6.alloc (.cells #[.int .i64 (i : Int), .int .i64 v, .slice none 0 0] 147)).cell? ⟨w.heap.size, 0, none⟩ = some (.slice kA kn kc) := (hBG6.alloc _).cell 0
        have HVK : Hid (VkI w7 w6 B w6.heap.size s hi_ i v none 0 0 []) := Lib.hid ⟨HS6.out.below HB7.out (HS6.out.lo hBs), HH7.out, World.ownsRow_nil _ _ _ _, rfl, (fun z hz => by cases hz), (fun z hz => by cases hz), Fq.of_below HB7.out⟩
        have HKS7 : Hid (KsY w7 0 kA kn kc ks) := Lib.hid (HI6.out.ks.keep (F := []) (Kx.of_below (B := 0) HB7.out) (by simp) (by simp))
        have HBW : Hid (B ≤ w6.heap.size ∧ w6.heap.size ≤ w7.heap.size ∧ w6.heap.size ≤ hi_) := Lib.hid ⟨HS6.out.lo hBs, HB7.out.size, by omega⟩
        have HHE := Lib.hid hhi
        go_upto_block 2 with fail
        rw [← hw7, ← hhi]
        clear hw7 hhi g1 e1 hgi hBG6
        refine vdKinds_any HKS7.out HON.out HPL.out HVK.out hBs HBW.out.1 (Nat.le_refl _) HBW.out.2.2 HBW.out.2.1 hkn ?_
        intros
        rename_i CA q2 cc l w8 H8
        have HQ68 : Hid (Fq [s] w6 w8) := Lib.hid H8.out.2.1.fq
        have hk8 : Kx 0 [189] w6 w8 := Kx.fq (B' := 0) HQ68.out HS6.out (Nat.zero_le _)
        have HI8 := Lib.hid (HI6.out.kx hk8 (by decide) (by decide) (by decide) (by decide) (by decide) (by decide))
        have HQ8 : Hid (Fq [s, ho] W0 w8) := Lib.hid (HQ6.out.trans HQ68.out (fun k hk => .inl (by rw [show k = s by simpa using hk]; simp)))
        have HS8 : Hid (StrSt w8 B s) := Lib.hid H8.out.2.1.st
        have hq2 : q2 ≤ kn := H8.out.1
        have HOL := Lib.hid H8.out.2.1.own
        have HIT8 : Hid (ItY w8 0 (⟨i, v, CA, q2, cc, l⟩ : It)) := Lib.hid ⟨⟨RdY.of_own HOL.out, H8.out.2.1.len, (own_cap2 HOL.out).1, (own_cap2 HOL.out).2, H8.out.2.1.cm⟩, wf_i64 (by show _ ≤ ((i : Nat) : Int); omega) (by show ((i : Nat) : Int) ≤ _; omega), wf_i64 (by show _ ≤ v; omega) (by show v ≤ _; omega)⟩
        have HNO : Hid (NoB (Value.slice (some ⟨g9, 0, none⟩) (i + 1) c9).ownBlock l) := Lib.hid (NoB.of_fr H8.out.2.1.fr (fun b hb => by
          have e : g9 = b := by simpa [Value.ownBlock] using hb
          subst e
          exact ⟨Nat.zero_le _, hg9.2⟩))
        have HVC := Lib.hid H8.out.2.2.1
        have HHI8 := Lib.hid H8.out.2.1.it
        clear hk8 H8 HVK HKS7 HH7 HB7
        have e2 : w8.cell? ⟨ho, 2, none⟩ = some (.slice IA q ic) := HI8.out.bo.cell 2
        have k0 : w8.cell? ⟨hi_, 0, none⟩ = some (.int .i64 (i : Int)) := HHI8.out.cell 0
        have k1 : w8.cell? ⟨hi_, 1, none⟩ = some (.int .i64 v) := HHI8.out.cell 1
        have k2 : w8.cell? ⟨hi_, 2, none⟩ = some (.slice CA q2 cc) := HHI8.out.cell 2
        obtain ⟨iI, hiI, hzI0, hzI1, hzI2⟩ := info_parts T.infoIt
        have hw8 : W0.heap.size ≤ w8.heap.size := HQ8.out.size
        have hB0 : B ≤ W0.heap.size := by omega
        go_wp2_with
          (at_builtin
           go_must (refine wpList_append_one _ rfl (.tmp 102) (.tmp 104) _ rfl W0.heap.size 147 iI (.agg #[.int .i64 0, .int .i64 0, .slice none 0 0]) 3 40 Try.underlying50 hiI hzI0 hzI1 hzI2 rfl (by decide) (.slice IA q ic) q (itCs its) rfl (HI8.out.iown.alloc _) w8.heap.size 1 147 #[.int .i64 (i : Int), .int .i64 v, .slice CA q2 cc] rfl (Bk.new _ _ _) rfl ?c1 (q + 1) rfl ?c2 ?c3 ?c4 ?_)
           case c1 => simp [Value.oneCell']
           case c2 => unfold maxLen; omega
           case c3 => omega
           case c4 => (simp; omega)
           intro gA cA wA hownA hgA hatA
           have hboA : Bk wA ho 52 #[.slice kA kn kc, .slice (some ⟨g9, 0, none⟩) (i + 1) c9, .slice IA q ic] := (HI8.out.bo.alloc _).grown hgA (fun e => own_ne HI8.out.iown HI8.out.bo (by decide) e.symm)
           have z0 : wA.cell? ⟨ho, 2, none⟩ = some (.slice IA q ic) := hboA.cell 2
           have z1 := hboA.frozen 2
           have hWI := HI8.out.item HIT8.out HNO.out hownA hgA
           have hkB : Kx B [147, 52] w8 (wA.setCell ⟨ho, 2, none⟩ (.slice (some ⟨gA, 0, none⟩) (q + 1) cA)) := (((Kx.refl (B := B)).alloc _).grown (HI8.out.iown.alloc _) hgA hB0 (by simp)).set hboA (by omega) (by simp) 2 _
           have HSN : Hid (StrSt (wA.setCell ⟨ho, 2, none⟩ (.slice (some ⟨gA, 0, none⟩) (q + 1) cA)) B s) := Lib.hid (HS8.out.kx hkB (Nat.le_refl _) (HS8.out.lo hBs) (by decide))
           have HQN : Hid (Fq [s, ho] W0 (wA.setCell ⟨ho, 2, none⟩ (.slice (some ⟨gA, 0, none⟩) (q + 1) cA))) := Lib.hid (((HQ8.out.alloc _).grown hgA (fun g hg => .inr (HI8.out.iown.lt g hg).1)).set (.inl (by simp)) 2 _)
           have HIN : Hid (WI r ho W0.heap.size (wA.setCell ⟨ho, 2, none⟩ (.slice (some ⟨gA, 0, none⟩) (q + 1) cA)) kA kn kc ks (some ⟨g9, 0, none⟩) (i + 1) c9 (G ++ [v]) (some ⟨gA, 0, none⟩) (q + 1) cA (its ++ [(⟨i, v, CA, q2, cc, l⟩ : It)]) ∧ WwI holdK (ks.map Kd.p) (i + 1) (G ++ [v]) ((its ++ [(⟨i, v, CA, q2, cc, l⟩ : It)]).map It.p)) := Lib.hid ⟨hWI.1, by
             rw [List.map_append]
             exact HWO.out.item hv0 (by omega) HVC.out⟩
           clear hWI hkB hownA hgA hatA hboA)
        go_roundw
        case rel => first | exact ⟨i + 1, q + 1, c9, cA, some ⟨g9, 0, none⟩, some ⟨gA, 0, none⟩, G ++ [v], its ++ [(⟨i, v, CA, q2, cc, l⟩ : It)], by omega, by omega, by go_num, HIN, HSN, HQN⟩ | ((repeat apply Exists.intro); (refine And.intro ?_ ?_); rotate_left; (focus (repeat' first | exact rfl | apply And.intro)); exact ⟨i + 1, q + 1, c9, cA, some ⟨g9, 0, none⟩, some ⟨gA, 0, none⟩, G ++ [v], its ++ [(⟨i, v, CA, q2, cc, l⟩ : It)], by omega, by omega, by go_num, HIN, HSN, HQN⟩)
        case measure => simp [intOf]; omega
    · obtain rfl : N = i := by omega
      have b0 : wr.cell? ⟨ho, 0, none⟩ = some (.slice kA kn kc) := HI.out.1.bo.cell 0
      have b1 : wr.cell? ⟨ho, 1, none⟩ = some (.slice GA N gc) := HI.out.1.bo.cell 1
      have b2 : wr.cell? ⟨ho, 2, none⟩ = some (.slice IA q ic) := HI.out.1.bo.cell 2
      have n0 : wr.cell? ⟨r, 0, none⟩ = some (.slice none 0 0) := HI.out.1.bR.cell 0
      have n1 : wr.cell? ⟨r, 1, none⟩ = some (.slice none 0 0) := HI.out.1.bR.cell 1
      have n2 : wr.cell? ⟨r, 2, none⟩ = some (.slice none 0 0) := HI.out.1.bR.cell 2
      have m0 := HI.out.1.bR.frozen 0
      have m1 := HI.out.1.bR.frozen 1
      have m2 := HI.out.1.bR.frozen 2
      go_wp2_with fail
      (try simp only [Exit.inBlock, Exit.then])
      have hkx := Kx.set3 (B := 0) (F := [52]) Kx.refl HI.out.1.bR (Nat.zero_le _) (by simp) 0 1 2 (.slice kA kn kc) (.slice GA N gc) (.slice IA q ic)
      have hvw := HI.out.2.done (by omega)
      have hgw : ∀ g ∈ G, (Lit.int .i64 g).wf = true := fun g hg => by have := HI.out.2.gens g hg; exact wf_i64 (by omega) (by omega)
      have hbel : Below w.heap.size w wr := HB0.out.trans (HQ.out.below (fun k hk => by (have hk : k = s ∨ k = ho := (by simpa using hk)); omega) HB0.out.size)
      have hwr2 : w.heap.size ≤ r := by omega
      refine bodyPost_ret (v := .agg #[.slice kA kn kc, .slice GA N gc, .slice IA q ic]) ?_ rfl ⟨⟨kA, kn, kc, ks, GA, N, gc, G, IA, q, ic, its⟩, rfl, Lib.hid ⟨⟨⟨HI.out.1.ks.keep hkx (by decide) (by decide), (GsY.own HI.out.1.gown hgw).keep hkx (by decide), (IsY.of_own HI.out.1.iown HI.out.1.len HI.out.1.iok).keep hkx (by decide) (by decide) (by decide)⟩, hvw⟩, rfl, rfl, rfl, rfl, ?_, ?_⟩, ?_⟩
      · rw [results_c1 rfl]
        go_simp
      · show its.length ≤ 5
        have := HI.out.1.len
        omega
      · show G.length ≤ 5
        have := HI.out.2.len
        omega
      · exact ((hbel.setCell (p := ⟨r, 0, none⟩) hwr2 _).setCell (p := ⟨r, 1, none⟩) hwr2 _).setCell (p := ⟨r, 2, none⟩) hwr2 _
/-! ### Ce -/
theorem grown_cellsC (w : World) (g o : Nat) (vs : List Value) : w.grownBy (w.setCells g o vs) (some g) := by
  induction vs generalizing w o with
  | nil => exact ⟨rfl, rfl, rfl, Nat.le_refl _, fun _ _ _ => rfl⟩
  | cons v r ih =>
    have h := ih (w.setCell ⟨g, o, none⟩ v) (o + 1)
    have h0 : w.grownBy (w.setCell ⟨g, o, none⟩ v) (some g) := Gb.set_ ⟨rfl, rfl, rfl, Nat.le_refl _, fun _ _ _ => rfl⟩ o v
    exact ⟨h.os.trans h0.os, h.tape.trans h0.tape, h.output.trans h0.output, Nat.le_trans h0.size h.size, fun k hk hne => (h.block k (Nat.lt_of_lt_of_le hk h0.size) hne).trans (h0.block k hk hne)⟩
theorem clo236_any (x : Int) (w : World) : Calls Try.prog 236 #[.int .i64 x] w fun e w' => e = .returned (.bool (decide (x = 0))) ∧ w' = w := by
  obtain ⟨d, hd⟩ : ∃ d, d = decide (x = 0) := ⟨_, rfl⟩
  have t0 : (x == 0) = d := by rw [hd]; rw [Bool.eq_iff_iff]; simp
  rw [← hd]
  clear hd
  cases d
  all_goals
    go_enter Try.func236, Try.ntmps236
    go_wp2_with fail
    go_ret
    exact ⟨rfl, rfl⟩
set_option maxHeartbeats 1600000 in
theorem idx248_any {w : World} {B n c : Nat} {A : Option Addr} {xs : List Int} (h : Rd w B 1 A n (xs.map (Value.int .i64))) (hlen : n = xs.length) (hcap : n ≤ c) (hcap2 : c ≤ 9223372036854775807) :
    Calls Try.prog 248 #[.slice A n c, .func (.func 236) #[] #[]] w fun e w' => (∃ r : Int, e = .returned (.int .i64 r) ∧ (r = -1 ∨ ∃ k : Nat, r = k ∧ k < n)) ∧ w' = w := by
  have HK : Hid (Rd w B 1 A n (xs.map (Value.int .i64)) ∧ n = xs.length) := Lib.hid ⟨h, hlen⟩
  have HC := Lib.hid clo236_any
  clear h hlen
  go_enter Try.func248, Try.ntmps248
  go_wp2_with fail
  go_loopw [8] (fun i wr => ∃ k : Nat, k ≤ n ∧ i = .int .i64 k ∧ wr = w) (fun i _ => n - (intOf i).toNat)
  case atStart => exact ⟨0, Nat.zero_le _, rfl, rfl⟩
  case round =>
    obtain ⟨k, hk, rfl, rfl⟩ := hrel
    by_cases hlt : k < n
    · have hkz : (k : Int) < n := by omega
      obtain ⟨x, hx⟩ : ∃ x, xs[k]? = some x := ⟨_, List.getElem?_eq_getElem (by have := HK.out.2; omega)⟩
      obtain ⟨b, o, rfl, hb, hc⟩ := HK.out.1.at1 hlt (u := .int .i64 x) (by rw [List.getElem?_map, hx]; rfl)
      by_cases hx0 : x = 0
      · subst hx0
        go_wp2_with fail
        (with_reducible refine (HC.out 0 _).mono ?_)
        rintro e w1 ⟨rfl, rfl⟩
        go_wp2_with fail
        go_ret
        exact ⟨⟨_, rfl, .inr ⟨k, rfl, hlt⟩⟩, rfl⟩
      · have t0 : decide (x = 0) = false := by simp [hx0]
        clear hx0
        go_wp2_with fail
        (with_reducible refine (HC.out x _).mono ?_)
        rintro e w1 ⟨rfl, rfl⟩
        rw [t0]
        go_wp2_with fail
        go_roundw
        case rel => first | exact ⟨k + 1, by omega, by go_num, rfl⟩ | exact ⟨k + 1, by omega, by go_num, trivial⟩
        case measure => simp [intOf]; omega
    · obtain rfl : n = k := by omega
      go_wp2_with fail
      go_ret
      exact ⟨⟨_, rfl, .inl rfl⟩, rfl⟩
set_option maxHeartbeats 4000000 in
theorem del235_any {w : World} {base n c : Nat} {A : Option Addr} {xs : List Int} (h : w.ownsRow base 3 1 (.slice A n c) n (xs.map (Value.int .i64))) :
    Calls Try.prog 235 #[.slice A n c, .func (.func 236) #[] #[]] w fun e w' => (∃ m : Nat, e = .returned (.slice A m c) ∧ m ≤ n) ∧ ∃ F : List Nat, (∀ k ∈ F, (Value.slice A n c).ownBlock = some k) ∧ Fq F w w' := by
  have hcp := own_cap2 h
  have hcap := hcp.1
  have hcap2 := hcp.2
  have hlen : n = xs.length := by have := h.1; simpa using this.symm
  have HI := Lib.hid (idx248_any (Rd.of_own h) hlen hcap hcap2)
  have HO := Lib.hid h
  have HC := Lib.hid clo236_any
  have HL := Lib.hid hlen
  clear hcp h hlen
  go_enter Try.func235, Try.ntmps235
  go_wp2_with fail
  (with_reducible refine HI.out.mono ?_)
  rintro e w1 ⟨⟨r, rfl, hr⟩, rfl⟩
  rcases hr with rfl | ⟨i0, rfl, hi0⟩
  · go_wp2_with fail
    go_ret
    exact ⟨⟨n, rfl, Nat.le_refl _⟩, [], (fun k hk => by cases hk), Fq.refl⟩
  · obtain ⟨g, rfl⟩ : ∃ g, A = some ⟨g, 0, none⟩ := by
      obtain ⟨g, cap, hvv, _, _⟩ := HO.out.form (by omega)
      injection hvv with h1
      exact ⟨g, h1⟩
    have hm1 : ((i0 : Int) == -1) = false := by simp <;> omega
    have hiz : (i0 : Int) < n := by omega
    have hwr : wrap64 ((i0 : Int) + 1) = (i0 : Int) + 1 := wrap_small (by omega) (by omega)
    clear HI
    go_wp2_with fail
    go_loopw [5, 6] (fun iv jv wr => ∃ (i j : Nat) (ys : List Int), i < j ∧ j ≤ n ∧ iv = .int .i64 i ∧ jv = .int .i64 j ∧ Hid (wr.ownsRow base 3 1 (.slice (some ⟨g, 0, none⟩) n c) n (ys.map (Value.int .i64)) ∧ n = ys.length) ∧ Hid (Fq [g] w1 wr)) (fun _ jv _ => n - (intOf jv).toNat)
    case atStart => exact ⟨i0, i0 + 1, xs, by omega, by omega, rfl, by go_num, Lib.hid ⟨HO.out, HL.out⟩, Lib.hid Fq.refl⟩
    case round =>
      obtain ⟨i, j, ys, hij, hj, rfl, rfl, HY, HQ⟩ := hrel
      by_cases hlt : j < n
      · have hjz : (j : Int) < n := by omega
        have hiz2 : (i : Int) < n := by omega
        obtain ⟨y, hy⟩ : ∃ y, ys[j]? = some y := ⟨_, List.getElem?_eq_getElem (by have := HY.out.2; omega)⟩
        obtain ⟨b, o, hA, hb, hc⟩ := (Rd.of_own HY.out.1).at1 hlt (u := .int .i64 y) (by rw [List.getElem?_map, hy]; rfl)
        injection hA with hA
        injection hA with h1 h2
        subst h1; subst h2
        rw [Nat.zero_add] at hc
        clear hy hb
        by_cases hy0 : y = 0
        · have t0 : decide (y = 0) = true := by simp [hy0]
          clear hy0
          go_wp2_with fail
          (with_reducible refine (HC.out y _).mono ?_)
          rintro e w2 ⟨rfl, rfl⟩
          rw [t0]
          go_wp2_with fail
          go_roundw
          case rel => exact ⟨i, j + 1, ys, by omega, by omega, rfl, by go_num, HY, HQ⟩
          case measure => simp [intOf]; omega
        · have t0 : decide (y = 0) = false := by simp [hy0]
          clear hy0
          obtain ⟨⟨q, hq⟩, hf⟩ := own_cellB HY.out.1 (j := i) (by omega)
          have HS : Hid ((wr.setCell ⟨g, i, none⟩ (.int .i64 y)).ownsRow base 3 1 (.slice (some ⟨g, 0, none⟩) n c) n ((ys.set i y).map (Value.int .i64)) ∧ n = (ys.set i y).length) := Lib.hid ⟨by rw [List.map_set]; exact own_setB HY.out.1 (by omega) _, by rw [List.length_set]; exact HY.out.2⟩
          have HQ2 : Hid (Fq [g] w1 (wr.setCell ⟨g, i, none⟩ (.int .i64 y))) := Lib.hid (HQ.out.set (.inl (by simp)) i _)
          go_wp2_with fail
          (with_reducible refine (HC.out y _).mono ?_)
          rintro e w2 ⟨rfl, rfl⟩
          rw [t0]
          go_wp2_with fail
          go_roundw
          case rel => exact ⟨i + 1, j + 1, ys.set i y, by omega, by omega, by go_num, by go_num, HS, HQ2⟩
          case measure => simp [intOf]; omega
      · obtain rfl : n = j := by omega
        have hin : (i : Int) ≤ n := by omega
        have hic : (i : Int) ≤ c := by omega
        have hcl : ∀ ty, (Builtin.clear_ #[30] ty #[.slice (some ⟨g, i, none⟩) (n - i) (c - i)]).run Try.prog wr = .ok (.tuple #[]) (wr.setCells g i (List.replicate (n - i) (.int .i64 0))) := fun ty => Lib.run_clear_slice wr 30 3 ty _ Try.underlying30 (by intro w; kernel_rfl) (by rfl) (by rfl) g i _ _ (by omega) (fun t ht => by obtain ⟨⟨u, hu⟩, _⟩ := own_cellB HY.out.1 (j := i + t) (by omega); rw [hu]; rfl) (fun t ht => (own_cellB HY.out.1 (j := i + t) (by omega)).2)
        have HF : Hid (Fq [g] w1 (wr.setCells g i (List.replicate (n - i) (.int .i64 0)))) := Lib.hid (HQ.out.grown (grown_cellsC wr g i _) (fun k hk => .inl (by injection hk with hk; simp [hk])))
        go_wp2_with fail
        go_ret
        exact ⟨⟨i, rfl, by omega⟩, [g], (fun k hk => by rw [show k = g by simpa using hk]; rfl), HF.out⟩
/-! ### Rl -/
section
variable {P : Program} {ops : Array Oper} {Q : Exit → Act → World → Prop} {md : Region.Mode} {S : World → Prop} {late : List Nat}
/-- Whatever order is picked from here on; S holds behind each operation but the late ones. -/
def wpAnyL (P : Program) (md : Region.Mode) (ops : Array Oper) (Q : Exit → Act → World → Prop) (S : World → Prop) (late : List Nat) : Nat → Array Bool → Act → World → Prop
  | 0, listed, a, w => Region.ready md ops listed = [] ∧ Q .normal a w
  | fuel + 1, listed, a, w =>
    (Region.ready md ops listed = [] → Q .normal a w) ∧
    ∀ i ∈ Region.ready md ops listed, wpOp P ops Q i (fun a' w' => (i ∉ late → S w') ∧ wpAnyL P md ops Q S late fuel (listed.setIfInBounds i true) a' w') a w
theorem wpAny_of_L : ∀ (fuel : Nat) (listed : Array Bool) (a : Act) (w : World), wpAnyL P md ops Q S late fuel listed a w → wpAny P md ops Q fuel listed a w
  | 0, _, _, _, h => h
  | fuel + 1, _, _, _, h => ⟨h.1, fun i hi => wpOp_mono (fun a' w' h' => wpAny_of_L fuel _ a' w' h'.2) (h.2 i hi)⟩
/-- Number l waits for number i, by an edge that binds. -/
def Waits (md : Region.Mode) (ops : Array Oper) (l i : Nat) : Prop := ∃ ol, ops[l]? = some ol ∧ ∃ e ∈ ol.after, Region.binds md e = true ∧ e.on = i
theorem Waits.not_ready {l i : Nat} {listed : Array Bool} (h : Waits md ops l i) (hi : listed.getD i true = false) : l ∉ Region.ready md ops listed := fun hj => by
  obtain ⟨ol, hol, e, he, hb, heq⟩ := h
  obtain ⟨_, oj, hoj, hall⟩ := mem_ready.1 hj
  rw [hol] at hoj
  injection hoj with hoj
  subst hoj
  have h1 := hall e he hb
  rw [heq] at h1
  rcases Nat.lt_or_ge i listed.size with h' | h'
  · simp [h'] at hi h1; rw [hi] at h1; cases h1
  · simp [Array.getElem?_eq_none h'] at h1
def WaitsN (md : Region.Mode) (ops : Array Oper) (listed : Array Bool) : Nat → Nat → Nat → Prop
  | 0, l, i => Waits md ops l i
  | n + 1, l, i => Waits md ops l i ∨ ∃ m, Waits md ops l m ∧ listed.getD m true = false ∧ WaitsN md ops listed n m i
theorem WaitsN.not_ready {i : Nat} {listed : Array Bool} (hi : listed.getD i true = false) : ∀ {n l : Nat}, WaitsN md ops listed n l i → l ∉ Region.ready md ops listed
  | 0, _, h => Waits.not_ready h hi
  | _ + 1, _, .inl h => h.not_ready hi
  | _ + 1, _, .inr ⟨_, h, hm, _⟩ => h.not_ready hm
theorem WaitsN.set {i j : Nat} {listed : Array Bool} (hi : listed.getD i true = false) (hj : j ∈ Region.ready md ops listed) : ∀ {n l : Nat}, WaitsN md ops listed n l i → WaitsN md ops (listed.setIfInBounds j true) n l i
  | 0, _, h => h
  | _ + 1, _, .inl h => .inl h
  | _ + 1, _, .inr ⟨m, h, hm, hr⟩ => .inr ⟨m, h, by
      rw [getD_set_ne true (fun e => by subst e; exact hr.not_ready hi hj)]
      exact hm, hr.set hi hj⟩
def waitsN (md : Region.Mode) (ops : Array Oper) (listed : Array Bool) : Nat → Nat → Nat → Bool
  | 0, l, i => waits md ops l i
  | n + 1, l, i => waits md ops l i || (List.range ops.size).any fun m => waits md ops l m && (!(listed.getD m true) && waitsN md ops listed n m i)
theorem wpAnyL_first {i : Nat} {oi : Oper} {v : Value} (hi : ops[i]? = some oi) (hsel : ∀ (j : Nat) (o : Oper) cs b, ops[j]? = some o → o.op ≠ .select cs b)
    (hQ : ∀ c a w, Q (.panic c) (a.put oi.dst v) w → Q (.panic c) a w) :
    ∀ (fuel : Nat) (listed : Array Bool) (a : Act) (w : World), (∀ l ∈ late, WaitsN md ops listed 5 l i) →
      (∀ j oj, ops[j]? = some oj → j ≠ i → listed.getD j true = false → (∀ e ∈ oj.after, Region.binds md e = true → e.on ≠ i) → oi.apart ops oj = true) →
      i ∈ Region.ready md ops listed → YieldsIf P ops S oi v a → S w →
      wpAnyL P md ops Q S late fuel (listed.setIfInBounds i true) (a.put oi.dst v) w → wpAnyL P md ops Q S late (fuel + 1) listed a w := by
  intro fuel
  induction fuel with
  | zero =>
    intro listed a w _ _ hr hy hS H
    refine ⟨fun h => (by rw [h] at hr; cases hr), fun j hj => ?_⟩
    by_cases hji : j = i
    · subst hji; exact hy.wpOp hi hS ⟨fun _ => hS, H⟩
    · have := ready_mono hj hji
      rw [H.1] at this
      cases this
  | succ fuel ih =>
    intro listed a w hwt hfree hr hy hS H
    refine ⟨fun h => (by rw [h] at hr; cases hr), fun j hj => ?_⟩
    by_cases hji : j = i
    · subst hji; exact hy.wpOp hi hS ⟨fun _ => hS, H⟩
    · have h1 := H.2 j (ready_mono hj hji)
      obtain ⟨hjun, oj, hoj, hall⟩ := mem_ready.1 hj
      have hiun := (mem_ready.1 hr).1
      have hnot : ∀ e ∈ oj.after, Region.binds md e = true → e.on ≠ i := fun e he hb heq =>
        Waits.not_ready (md := md) (ops := ops) ⟨oj, hoj, e, he, hb, heq⟩ hiun hj
      have hjl : j ∉ late := fun hm => (hwt j hm).not_ready hiun hj
      have h2 := wpOp_putIf hoj (hfree j oj hoj hji hjun hnot) (fun cs b => hsel i oi cs b hi) (fun cs b => hsel j oj cs b hoj) hQ hy h1
      have hfree' : ∀ k ok, ops[k]? = some ok → k ≠ i → (listed.setIfInBounds j true).getD k true = false →
          (∀ e ∈ ok.after, Region.binds md e = true → e.on ≠ i) → oi.apart ops ok = true := fun k ok hk hki hun hno => by
        refine hfree k ok hk hki ?_ hno
        by_cases hjk : j = k
        · subst hjk; exact hjun
        · rw [getD_set_ne true hjk] at hun; exact hun
      refine wpOp_mono (fun a' w' h3 => ⟨fun _ => h3.2.1 hjl, ih (listed.setIfInBounds j true) a' w' (fun l hl => (hwt l hl).set hiun hj) hfree' (ready_mono hr (Ne.symm hji)) h3.1 (h3.2.1 hjl) ?_⟩) h2
      rw [Array.setIfInBounds_comm _ _ hji]
      exact h3.2.2
theorem waits_spec {l i : Nat} (h : waits md ops l i = true) : Waits md ops l i := by
  unfold waits at h
  rw [Bool.and_eq_true] at h
  obtain ⟨h1, h2⟩ := h
  cases hol : ops[l]? with
  | none => rw [hol] at h2; cases h2
  | some ol =>
    rw [hol] at h2
    have h3 : (ol.after.any fun e => Region.binds md e && e.on == i) = true := h2
    obtain ⟨e, he, h4⟩ := Array.any_eq_true'.1 h3
    rw [Bool.and_eq_true] at h4
    exact ⟨ol, hol, e, he, h4.1, by simpa using h4.2⟩
theorem waitsN_spec {i : Nat} {listed : Array Bool} : ∀ {n l : Nat}, waitsN md ops listed n l i = true → WaitsN md ops listed n l i
  | 0, _, h => waits_spec h
  | n + 1, l, h => by
    unfold waitsN at h
    rw [Bool.or_eq_true] at h
    rcases h with h | h
    · exact .inl (waits_spec h)
    · obtain ⟨m, _, h⟩ := List.any_eq_true.1 h
      simp only [Bool.and_eq_true, Bool.not_eq_true'] at h
      exact .inr ⟨m, waits_spec h.1, h.2.1, waitsN_spec h.2.2⟩
theorem wpAnyL_val {i : Nat} {oi : Oper} {d : Option Tmp} {v : Value} {fuel : Nat} {listed : Array Bool} {a : Act} {w : World} (hi : ops[i]? = some oi) (hd : oi.dst = d)
    (hs : Region.noSelect ops = true) (hf : Region.free md ops listed i = true) (hr : (Region.ready md ops listed).contains i = true) (hwl : (late.all fun l => waitsN md ops listed 5 l i) = true)
    (hQ : ∀ c a w, Q (.panic c) (a.put d v) w → Q (.panic c) a w) (hy : YieldsIf P ops S oi v a) (hS : S w)
    (h : wpAnyL P md ops Q S late fuel (listed.setIfInBounds i true) (a.put d v) w) : wpAnyL P md ops Q S late (fuel + 1) listed a w := by
  subst hd
  rw [List.all_eq_true] at hwl
  exact wpAnyL_first hi (Region.noSelect_spec hs) hQ fuel listed a w (fun l hl => waitsN_spec (hwl l hl)) (Region.free_spec hi hf) (by simpa using hr) hy hS h
theorem wpAnyL_all {R : List Nat} {fuel : Nat} {listed : Array Bool} {a : Act} {w : World} (hr : Region.ready md ops listed = R) (hne : R ≠ [])
    (h : ∀ i ∈ R, wpOp P ops Q i (fun a' w' => (i ∉ late → S w') ∧ wpAnyL P md ops Q S late fuel (listed.setIfInBounds i true) a' w') a w) : wpAnyL P md ops Q S late (fuel + 1) listed a w :=
  ⟨fun h0 => absurd (hr.symm.trans h0) hne, fun i hi => h i (by rw [← hr]; exact hi)⟩
theorem wpOp_L {i : Nat} {oi : Oper} {a : Act} {w : World} {K : Act → World → Prop} (hi : ops[i]? = some oi) (hg : Region.wanted oi (yielded ops a.tmps) = true)
    (h : oi.wp P a w (fun a' w' => S w' ∧ K a' w') Q) : wpOp P ops Q i (fun a' w' => (i ∉ late → S w') ∧ K a' w') a w := by
  unfold wpOp
  simp only [hi, hg, if_true]
  exact .inl (Oper.wp_mono (fun a' w' h => ⟨fun _ => h.1, h.2⟩) h)
theorem wpAnyL_one {i : Nat} {oi : Oper} {fuel : Nat} {listed : Array Bool} {a : Act} {w : World} (hi : ops[i]? = some oi) (hr : Region.ready md ops listed = [i]) (hg : Region.wanted oi (yielded ops a.tmps) = true)
    (h : oi.wp P a w (fun a' w' => S w' ∧ wpAnyL P md ops Q S late fuel (listed.setIfInBounds i true) a' w') Q) : wpAnyL P md ops Q S late (fuel + 1) listed a w :=
  wpAnyL_all hr (by simp) fun j hj => by
    have e : j = i := by simpa using hj
    subst e
    exact wpOp_L hi hg h
theorem wpAnyL_late {i : Nat} {oi : Oper} {fuel : Nat} {listed : Array Bool} {a : Act} {w : World} (hi : ops[i]? = some oi) (hr : Region.ready md ops listed = [i]) (hg : Region.wanted oi (yielded ops a.tmps) = true) (hl : late.contains i = true)
    (h : oi.wp P a w (fun a' w' => wpAnyL P md ops Q S late fuel (listed.setIfInBounds i true) a' w') Q) : wpAnyL P md ops Q S late (fuel + 1) listed a w :=
  wpAnyL_all hr (by simp) fun j hj => by
    have e : j = i := by simpa using hj
    subst e
    unfold wpOp
    simp only [hi, hg, if_true]
    exact .inl (Oper.wp_mono (fun a' w' h => ⟨fun h0 => absurd (by simpa using hl) h0, h⟩) h)
theorem wpAnyL_two {i j : Nat} {oi oj : Oper} {fuel : Nat} {listed : Array Bool} {a : Act} {w : World} (hi : ops[i]? = some oi) (hj : ops[j]? = some oj) (hr : Region.ready md ops listed = [i, j]) (hg : Region.wanted oi (yielded ops a.tmps) = true) (hg' : Region.wanted oj (yielded ops a.tmps) = true)
    (h1 : oi.wp P a w (fun a' w' => S w' ∧ wpAnyL P md ops Q S late fuel (listed.setIfInBounds i true) a' w') Q) (h2 : oj.wp P a w (fun a' w' => S w' ∧ wpAnyL P md ops Q S late fuel (listed.setIfInBounds j true) a' w') Q) : wpAnyL P md ops Q S late (fuel + 1) listed a w :=
  wpAnyL_all hr (by simp) fun k hk => by
    rcases (by simpa using hk : k = i ∨ k = j) with e | e
    · subst e
      exact wpOp_L hi hg h1
    · subst e
      exact wpOp_L hj hg' h2
theorem wpAnyL_done {listed : Array Bool} {a : Act} {w : World} (hr : Region.ready md ops listed = []) (h : Q .normal a w) :
    ∀ fuel, wpAnyL P md ops Q S late fuel listed a w
  | 0 => ⟨hr, h⟩
  | _ + 1 => ⟨fun _ => h, by rw [hr]; simp⟩
theorem wp_region_L {id : Nat} {a : Act} {w : World} (hm : P.follows .mixedOrders = true)
    (h : wpAnyL P .any ops Q S late ops.size (Array.replicate ops.size false) a w.drew) : (Code.region id ops true).wp P Q a w :=
  wp_region_any hm (wpAny_of_L _ _ _ _ h)
end
/-! ### Cf -/
/-- What the closure needs: the boxes of the stream, of what was seen, and of the kinds. -/
structure ArgI (w : World) (B s hp hs hk : Nat) (SA : Option Addr) (sn sc : Nat) (xs : List Int) (kA : Option Addr) (kn kc : Nat) (ks : List Kd) : Prop where
  st : StrSt w B s
  bp : Bk w hp 187 #[.pointer (some ⟨s, 0, none⟩)]
  bs : Bk w hs 30 #[.slice SA sn sc]
  bk : Bk w hk 22 #[.slice kA kn kc]
  rd : RdY w 0 3 1 SA sn (xs.map (Value.int .i64))
  cap : sn ≤ sc
  cap2 : sc ≤ 9223372036854775807
  pos : 0 < sn
  few : sn ≤ 1000
  inn : ∀ x ∈ xs, 0 ≤ x ∧ x < kn
  kd : KsY w 0 kA kn kc ks
  fd : ∀ k ∈ ks, 1 ≤ k.n ∧ k.n ≤ 8
section
variable {w w' : World} {B s hp hs hk sn sc kn kc : Nat} {SA kA : Option Addr} {xs : List Int} {ks : List Kd}
theorem ArgI.fq (h : ArgI w B s hp hs hk SA sn sc xs kA kn kc ks) (hst : StrSt w' B s) (hq : Fq [s] w w') : ArgI w' B s hp hs hk SA sn sc xs kA kn kc ks := by
  have hx := Kx.fq (B' := 0) hq h.st (Nat.zero_le _)
  exact ⟨hst, hx.bk h.bp (by decide), hx.bk h.bs (by decide), hx.bk h.bk (by decide), h.rd.keep hx (by decide), h.cap, h.cap2, h.pos, h.few, h.inn, h.kd.keep hx (by decide) (by decide), h.fd⟩
end
theorem arg_end {w w1 w2 : World} {B s r : Nat} (hst : StrSt w2 B s) (_hB : B ≤ s) (hr : Bk w2 r 341 #[.bool false, .int .i64 0, .int .i64 0, .int .i64 0]) (h2 : Fq [s] w1 w2) (h1 : Fq [s] w w1) (hrw : w.heap.size ≤ r) (hBw : B ≤ w.heap.size) (V0 V1 V2 V3 : Value) :
    StrSt ((((w2.setCell ⟨r, 0, none⟩ V0).setCell ⟨r, 1, none⟩ V1).setCell ⟨r, 2, none⟩ V2).setCell ⟨r, 3, none⟩ V3) B s ∧ Fq [s] w ((((w2.setCell ⟨r, 0, none⟩ V0).setCell ⟨r, 1, none⟩ V1).setCell ⟨r, 2, none⟩ V2).setCell ⟨r, 3, none⟩ V3) := by
  have hk : Kx 0 [341] w2 ((((w2.setCell ⟨r, 0, none⟩ V0).setCell ⟨r, 1, none⟩ V1).setCell ⟨r, 2, none⟩ V2).setCell ⟨r, 3, none⟩ V3) := (((Kx.refl.set hr (Nat.zero_le _) (by simp) 0 V0).set (hr.set_ 0 V0) (Nat.zero_le _) (by simp) 1 V1).set ((hr.set_ 0 V0).set_ 1 V1) (Nat.zero_le _) (by simp) 2 V2).set (((hr.set_ 0 V0).set_ 1 V1).set_ 2 V2) (Nat.zero_le _) (by simp) 3 V3
  have hq := h1.trans h2 (SubF.refl _ _)
  refine ⟨?_, (((hq.set (.inr hrw) 0 V0).set (.inr hrw) 1 V1).set (.inr hrw) 2 V2).set (.inr hrw) 3 V3⟩
  obtain ⟨A, n, c, zs, a1, a2, a3, a4, a5, a6⟩ := hst
  have hqx : ∀ b, b < B → b ≠ r → ((((w2.setCell ⟨r, 0, none⟩ V0).setCell ⟨r, 1, none⟩ V1).setCell ⟨r, 2, none⟩ V2).setCell ⟨r, 3, none⟩ V3).heap[b]? = w2.heap[b]? := fun b _ hb => by
    exact (((Below.heap_setCell _ _ _ _ hb).trans (Below.heap_setCell _ _ _ _ hb)).trans (Below.heap_setCell _ _ _ _ hb)).trans (Below.heap_setCell _ _ _ _ hb)
  refine ⟨A, n, c, zs, hk.bk a1 (by decide), a2, a3, a4, a5.keep fun b hb => ?_, a6⟩
  exact hqx b hb (by omega)
set_option maxHeartbeats 8000000 in
theorem arg237_any {w : World} {B s hp hs hkb sn sc kn kc : Nat} {SA kA : Option Addr} {xs : List Int} {ks : List Kd} (h : ArgI w B s hp hs hkb SA sn sc xs kA kn kc ks) (hB : B ≤ s) :
    Calls Try.prog 237 #[.pointer (some ⟨hp, 0, none⟩), .pointer (some ⟨hs, 0, none⟩), .pointer (some ⟨hkb, 0, none⟩)] w fun e w' => ∃ (b : Bool) (x y z : Int), e = .returned (.agg #[.bool b, .int .i64 x, .int .i64 y, .int .i64 z]) ∧ StrSt w' B s ∧ Fq [s] w w' := by
  obtain ⟨W0, hW0⟩ : ∃ z, z = w.alloc (.cells #[.bool false, .int .i64 0, .int .i64 0, .int .i64 0] 341) := ⟨_, rfl⟩
  obtain ⟨r, hr⟩ : ∃ z, z = w.heap.size := ⟨_, rfl⟩
  have HQ0 : Hid (Fq [s] w W0) := Lib.hid (by rw [hW0]; exact Fq.of_below ((Below.refl _ _).alloc (Nat.le_refl _) _))
  have HB0 : Hid (Below w.heap.size w W0) := Lib.hid (by rw [hW0]; exact (Below.refl _ _).alloc (Nat.le_refl _) _)
  have HI0 : Hid (ArgI W0 B s hp hs hkb SA sn sc xs kA kn kc ks) := Lib.hid (h.fq (h.st.below HB0.out (h.st.lo hB)) HQ0.out)
  have HR0 : Hid (Bk W0 r 341 #[.bool false, .int .i64 0, .int .i64 0, .int .i64 0]) := Lib.hid (by rw [hW0, hr]; exact Bk.new _ _ _)
  have HNX := Lib.hid next_any
  have hrs : r ≠ s := by
    obtain ⟨cs, h1⟩ := h.st.bk
    have := h1.lt
    omega
  have HRW : Hid (w.heap.size ≤ r) := Lib.hid (by omega)
  have HBW : Hid (B ≤ w.heap.size) := Lib.hid (h.st.lo hB)
  have hpos := h.pos
  have hfew := h.few
  have hcap := h.cap
  have hcap2 := h.cap2
  have hkcap := h.kd.cap
  have hkcap2 := h.kd.cap2
  clear h
  have b0 : W0.cell? ⟨hp, 0, none⟩ = some (.pointer (some ⟨s, 0, none⟩)) := HI0.out.bp.cell 0
  go_enter Try.func237, Try.ntmps237
  go_upto_region 1 with fail
  rw [← hW0, ← hr]
  clear hW0 hr
  go_wp2_with fail
  (with_reducible refine (HNX.out s B 2 _ HI0.out.st hB (by omega) (by omega)).mono ?_)
  rintro e w1 ⟨v, rfl, hv0, hv1, hst1, hg1⟩
  have HR1 : Hid (Bk w1 r 341 #[.bool false, .int .i64 0, .int .i64 0, .int .i64 0]) := Lib.hid (HR0.out.grown hg1 (fun e => by injection e with e; omega))
  have HQ1 : Hid (Fq [s] W0 w1) := Lib.hid (Fq.refl.grown hg1 fun g hg => .inl (by injection hg with hg; simp [hg]))
  have HI1 : Hid (ArgI w1 B s hp hs hkb SA sn sc xs kA kn kc ks) := Lib.hid (HI0.out.fq hst1 HQ1.out)
  have HQw1 : Hid (Fq [s] w w1) := Lib.hid (HQ0.out.trans HQ1.out (SubF.refl _ _))
  clear hst1 hg1 HR0 HI0 HQ0 HQ1 b0
  have b1 : w1.cell? ⟨hp, 0, none⟩ = some (.pointer (some ⟨s, 0, none⟩)) := HI1.out.bp.cell 0
  by_cases hvz : v = 0
  · have t0 : (v == 0) = true := by simp [hvz]
    clear hvz
    go_wp2_with fail
    (with_reducible refine (HNX.out s B 20 _ HI1.out.st hB (by omega) (by omega)).mono ?_)
    rintro e w2 ⟨u, rfl, hu0, hu1, hst2, hg2⟩
    have hR2 : Bk w2 r 341 #[.bool false, .int .i64 0, .int .i64 0, .int .i64 0] := HR1.out.grown hg2 (fun e => by injection e with e; omega)
    have HQ2 : Hid (Fq [s] w1 w2) := Lib.hid (Fq.refl.grown hg2 fun g hg => .inl (by injection hg with hg; simp [hg]))
    have HS2 := Lib.hid hst2
    clear hst2 hg2 HR1
    have z0 : w2.cell? ⟨r, 0, none⟩ = some (.bool false) := hR2.cell 0
    have z1 : w2.cell? ⟨r, 1, none⟩ = some (.int .i64 0) := hR2.cell 1
    have z2 : w2.cell? ⟨r, 2, none⟩ = some (.int .i64 0) := hR2.cell 2
    have z3 : w2.cell? ⟨r, 3, none⟩ = some (.int .i64 0) := hR2.cell 3
    have y0 := hR2.frozen 0
    have y1 := hR2.frozen 1
    have y2 := hR2.frozen 2
    have y3 := hR2.frozen 3
    have HK : Hid (∀ V0 V1 V2 V3, StrSt ((((w2.setCell ⟨r, 0, none⟩ V0).setCell ⟨r, 1, none⟩ V1).setCell ⟨r, 2, none⟩ V2).setCell ⟨r, 3, none⟩ V3) B s ∧ Fq [s] w ((((w2.setCell ⟨r, 0, none⟩ V0).setCell ⟨r, 1, none⟩ V1).setCell ⟨r, 2, none⟩ V2).setCell ⟨r, 3, none⟩ V3)) := Lib.hid fun V0 V1 V2 V3 => arg_end HS2.out hB hR2 HQ2.out HQw1.out HRW.out HBW.out V0 V1 V2 V3
    clear hR2
    go_wp2_with fail
    (try simp only [Exit.inBlock, Exit.then])
    refine bodyPost_ret (v := .agg #[.bool false, .int .i64 (u - 6), .int .i64 0, .int .i64 0]) ?_ rfl ⟨false, _, 0, 0, rfl, (HK.out _ _ _ _).1, (HK.out _ _ _ _).2⟩
    rw [results_c1 rfl]
    go_simp
  · have t0 : (v == 0) = false := by simp [hvz]
    clear hvz
    go_upto_region 3 with fail
    clear b1 hv0 hv1
    obtain ⟨u1, hu1⟩ : ∃ z, z = w1.drew := ⟨_, rfl⟩
    have HC1 : Hid (ArgI u1 B s hp hs hkb SA sn sc xs kA kn kc ks) := Lib.hid (by rw [hu1]; exact HI1.out.fq (HI1.out.st.below (Below.refl _ _).drew (HI1.out.st.lo hB)) (Fq.refl.drew))
    have HRu : Hid (Bk u1 r 341 #[.bool false, .int .i64 0, .int .i64 0, .int .i64 0]) := Lib.hid (by rw [hu1]; exact HR1.out.drew)
    have HQu : Hid (Fq [s] w u1) := Lib.hid (by rw [hu1]; exact HQw1.out.drew)
    clear HI1 HR1 HQw1
    refine wp_region_H (S := fun wz => wz.cell? ⟨hp, 0, none⟩ = some (.pointer (some ⟨s, 0, none⟩)) ∧ wz.cell? ⟨hs, 0, none⟩ = some (.slice SA sn sc)) (by kernel_rfl) ?_
    rw [← hu1]
    clear hu1
    have HS : Hid (∀ wz, ArgI wz B s hp hs hkb SA sn sc xs kA kn kc ks → wz.cell? ⟨hp, 0, none⟩ = some (.pointer (some ⟨s, 0, none⟩)) ∧ wz.cell? ⟨hs, 0, none⟩ = some (.slice SA sn sc)) := Lib.hid fun wz h => ⟨h.bp.cell 0, h.bs.cell 0⟩
    refine wpAnyH_val (i := 0) (v := .slice SA sn sc) (d := some 12) rfl rfl (by kernel_rfl) (by kernel_rfl) (by kernel_rfl) (fun _ _ _ h => h) (Or.inl ⟨by rfl, fun w hS => by (obtain ⟨h0, h1⟩ := hS; go_simp)⟩) (HS.out _ HC1.out) ?_
    (try simp only [Act.put, List.setIfInBounds_toArray, List.set_cons_zero, List.set_cons_succ])
    refine wpAnyH_val (i := 1) (v := .pointer (some ⟨s, 0, none⟩)) (d := some 13) rfl rfl (by kernel_rfl) (by kernel_rfl) (by kernel_rfl) (fun _ _ _ h => h) (Or.inl ⟨by rfl, fun w hS => by (obtain ⟨h0, h1⟩ := hS; go_simp)⟩) (HS.out _ HC1.out) ?_
    (try simp only [Act.put, List.setIfInBounds_toArray, List.set_cons_zero, List.set_cons_succ])
    refine wpAnyH_val (i := 2) (v := .slice SA sn sc) (d := some 14) rfl rfl (by kernel_rfl) (by kernel_rfl) (by kernel_rfl) (fun _ _ _ h => h) (Or.inl ⟨by rfl, fun w hS => by (obtain ⟨h0, h1⟩ := hS; go_simp)⟩) (HS.out _ HC1.out) ?_
    (try simp only [Act.put, List.setIfInBounds_toArray, List.set_cons_zero, List.set_cons_succ])
    refine wpAnyH_val (i := 3) (v := .int .i64 (sn : Int)) (d := some 15) rfl rfl (by kernel_rfl) (by kernel_rfl) (by kernel_rfl) (fun _ _ _ h => h) (Or.inl ⟨by rfl, fun w hS => by (obtain ⟨h0, h1⟩ := hS; go_simp)⟩) (HS.out _ HC1.out) ?_
    (try simp only [Act.put, List.setIfInBounds_toArray, List.set_cons_zero, List.set_cons_succ])
    refine wpAnyH_oneW (i := 4) rfl (by kernel_rfl) (by rfl) ?_
    go_simp
    go_at_call 98
    (with_reducible refine (HNX.out s B sn _ HC1.out.st hB (by omega) (by omega)).mono ?_)
    rintro e u2 ⟨p, rfl, hp0, hp1, hst2, hg2⟩
    obtain ⟨p, rfl⟩ : ∃ N : Nat, p = N := ⟨p.toNat, by omega⟩
    have HQ2 : Hid (Fq [s] u1 u2) := Lib.hid (Fq.refl.grown hg2 fun g hg => .inl (by injection hg with hg; simp [hg]))
    have HC2 : Hid (ArgI u2 B s hp hs hkb SA sn sc xs kA kn kc ks) := Lib.hid (HC1.out.fq hst2 HQ2.out)
    have HRu2 : Hid (Bk u2 r 341 #[.bool false, .int .i64 0, .int .i64 0, .int .i64 0]) := Lib.hid (HRu.out.grown hg2 (fun e => by injection e with e; omega))
    have HQu2 : Hid (Fq [s] w u2) := Lib.hid (HQu.out.trans HQ2.out (SubF.refl _ _))
    clear hst2 hg2
    refine And.intro (HS.out _ HC2.out) ?_
    (try simp only [Act.put, List.setIfInBounds_toArray, List.set_cons_zero, List.set_cons_succ])
    have hpn : p < sn := by omega
    obtain ⟨x, hx⟩ : ∃ x, xs[p]? = some x := ⟨_, List.getElem?_eq_getElem (by have := HC2.out.rd.1; simp at this; omega)⟩
    obtain ⟨sb, so, rfl, hsb, hsc⟩ := HC2.out.rd.rd.at1 hpn (u := .int .i64 x) (by rw [List.getElem?_map, hx]; rfl)
    have hxin := HC2.out.inn x (List.mem_of_getElem? hx)
    obtain ⟨x, rfl⟩ : ∃ N : Nat, x = N := ⟨x.toNat, by omega⟩
    have hsc2 : u2.cell? ⟨sb, so + p, none⟩ = some (.int .i64 x) := hsc
    clear hx hsb hsc
    refine wpAnyH_oneW (i := 5) rfl (by kernel_rfl) (by rfl) ?_
    go_simp
    refine And.intro (HS.out _ HC2.out) ?_
    (try simp only [Act.put, List.setIfInBounds_toArray, List.set_cons_zero, List.set_cons_succ])
    refine wpAnyH_oneW (i := 6) rfl (by kernel_rfl) (by rfl) ?_
    go_simp
    refine And.intro (HS.out _ HC2.out) ?_
    (try simp only [Act.put, List.setIfInBounds_toArray, List.set_cons_zero, List.set_cons_succ])
    refine wpAnyH_oneW (i := 7) rfl (by kernel_rfl) (by rfl) ?_
    go_simp
    refine And.intro (HS.out _ HC2.out) ?_
    (try simp only [Act.put, List.setIfInBounds_toArray, List.set_cons_zero, List.set_cons_succ])
    refine wpAnyH_done (by kernel_rfl) ?_ _
    clear HS HC1 HRu HQu HQ2 hsc2
    obtain ⟨k, hk⟩ : ∃ k, ks[x]? = some k := ⟨_, List.getElem?_eq_getElem (by have := HC2.out.kd.len; omega)⟩
    have hxk : x < kn := by omega
    obtain ⟨kb, ko, rfl, hkbl, q0, q1⟩ := HC2.out.kd.rd.rd.kd hxk hk
    have hkf := HC2.out.fd k (List.mem_of_getElem? hk)
    have hkko := HC2.out.kd.ok k (List.mem_of_getElem? hk)
    have hkc1 := hkko.cap
    have hkc2 := hkko.cap2
    have HKV : Hid (∀ wz, ArgI wz B s hp hs hkb (some ⟨sb, so, none⟩) sn sc xs (some ⟨kb, ko, none⟩) kn kc ks → wz.cell? ⟨hp, 0, none⟩ = some (.pointer (some ⟨s, 0, none⟩)) ∧ wz.cell? ⟨hkb, 0, none⟩ = some (.slice (some ⟨kb, ko, none⟩) kn kc) ∧ wz.cell? ⟨kb, ko + x * 2 + 1, none⟩ = some (.slice k.A k.n k.c)) := Lib.hid fun wz h => by
      obtain ⟨b', o', hA, _, _, q1'⟩ := h.kd.rd.rd.kd hxk hk
      injection hA with hA
      injection hA with h1 h2
      subst h1; subst h2
      exact ⟨h.bp.cell 0, h.bk.cell 0, q1'⟩
    clear hk hkko hkbl q0 q1
    generalize k.A = fA at *
    generalize k.n = fn at *
    generalize k.c = fc at *
    go_upto_region 4 with fail
    obtain ⟨u3, hu3⟩ : ∃ z, z = u2.drew := ⟨_, rfl⟩
    have HC3 : Hid (ArgI u3 B s hp hs hkb (some ⟨sb, so, none⟩) sn sc xs (some ⟨kb, ko, none⟩) kn kc ks) := Lib.hid (by rw [hu3]; exact HC2.out.fq (HC2.out.st.below (Below.refl _ _).drew (HC2.out.st.lo hB)) (Fq.refl.drew))
    have HRu3 : Hid (Bk u3 r 341 #[.bool false, .int .i64 0, .int .i64 0, .int .i64 0]) := Lib.hid (by rw [hu3]; exact HRu2.out.drew)
    have HQu3 : Hid (Fq [s] w u3) := Lib.hid (by rw [hu3]; exact HQu2.out.drew)
    clear HC2 HRu2 HQu2
    refine wp_region_L (late := [11]) (S := fun wz => wz.cell? ⟨hp, 0, none⟩ = some (.pointer (some ⟨s, 0, none⟩)) ∧ wz.cell? ⟨hkb, 0, none⟩ = some (.slice (some ⟨kb, ko, none⟩) kn kc) ∧ wz.cell? ⟨kb, ko + x * 2 + 1, none⟩ = some (.slice fA fn fc)) (by kernel_rfl) ?_
    rw [← hu3]
    clear hu3
    refine wpAnyL_val (i := 0) (v := .int .i64 (x : Int)) (d := some 19) rfl rfl (by kernel_rfl) (by kernel_rfl) (by kernel_rfl) (by kernel_rfl) (fun _ _ _ h => h) (Or.inl ⟨by rfl, fun w hS => by (obtain ⟨h0, h1, h2⟩ := hS; go_simp)⟩) (HKV.out _ HC3.out) ?_
    (try simp only [Act.put, List.setIfInBounds_toArray, List.set_cons_zero, List.set_cons_succ])
    refine wpAnyL_val (i := 1) (v := .pointer (some ⟨s, 0, none⟩)) (d := some 20) rfl rfl (by kernel_rfl) (by kernel_rfl) (by kernel_rfl) (by kernel_rfl) (fun _ _ _ h => h) (Or.inl ⟨by rfl, fun w hS => by (obtain ⟨h0, h1, h2⟩ := hS; go_simp)⟩) (HKV.out _ HC3.out) ?_
    (try simp only [Act.put, List.setIfInBounds_toArray, List.set_cons_zero, List.set_cons_succ])
    refine wpAnyL_val (i := 2) (v := .slice (some ⟨kb, ko, none⟩) kn kc) (d := some 21) rfl rfl (by kernel_rfl) (by kernel_rfl) (by kernel_rfl) (by kernel_rfl) (fun _ _ _ h => h) (Or.inl ⟨by rfl, fun w hS => by (obtain ⟨h0, h1, h2⟩ := hS; go_simp)⟩) (HKV.out _ HC3.out) ?_
    (try simp only [Act.put, List.setIfInBounds_toArray, List.set_cons_zero, List.set_cons_succ])
    refine wpAnyL_val (i := 3) (v := .int .i64 (x : Int)) (d := some 22) rfl rfl (by kernel_rfl) (by kernel_rfl) (by kernel_rfl) (by kernel_rfl) (fun _ _ _ h => h) (Or.inl ⟨by rfl, fun w hS => by (obtain ⟨h0, h1, h2⟩ := hS; go_simp)⟩) (HKV.out _ HC3.out) ?_
    (try simp only [Act.put, List.setIfInBounds_toArray, List.set_cons_zero, List.set_cons_succ])
    refine wpAnyL_val (i := 4) (v := .pointer (some ⟨kb, ko + x * 2, none⟩)) (d := some 23) rfl rfl (by kernel_rfl) (by kernel_rfl) (by kernel_rfl) (by kernel_rfl) (fun _ _ _ h => h) (Or.inl ⟨by rfl, fun w hS => by (obtain ⟨h0, h1, h2⟩ := hS; go_simp)⟩) (HKV.out _ HC3.out) ?_
    (try simp only [Act.put, List.setIfInBounds_toArray, List.set_cons_zero, List.set_cons_succ])
    refine wpAnyL_val (i := 5) (v := .pointer (some ⟨kb, ko + x * 2 + 1, none⟩)) (d := some 24) rfl rfl (by kernel_rfl) (by kernel_rfl) (by kernel_rfl) (by kernel_rfl) (fun _ _ _ h => h) (Or.inl ⟨by rfl, fun w hS => by (obtain ⟨h0, h1, h2⟩ := hS; go_simp)⟩) (HKV.out _ HC3.out) ?_
    (try simp only [Act.put, List.setIfInBounds_toArray, List.set_cons_zero, List.set_cons_succ])
    refine wpAnyL_val (i := 6) (v := .slice fA fn fc) (d := some 25) rfl rfl (by kernel_rfl) (by kernel_rfl) (by kernel_rfl) (by kernel_rfl) (fun _ _ _ h => h) (Or.inl ⟨by rfl, fun w hS => by (obtain ⟨h0, h1, h2⟩ := hS; go_simp)⟩) (HKV.out _ HC3.out) ?_
    (try simp only [Act.put, List.setIfInBounds_toArray, List.set_cons_zero, List.set_cons_succ])
    refine wpAnyL_val (i := 7) (v := .int .i64 (fn : Int)) (d := some 26) rfl rfl (by kernel_rfl) (by kernel_rfl) (by kernel_rfl) (by kernel_rfl) (fun _ _ _ h => h) (Or.inl ⟨by rfl, fun w hS => by (obtain ⟨h0, h1, h2⟩ := hS; go_simp)⟩) (HKV.out _ HC3.out) ?_
    (try simp only [Act.put, List.setIfInBounds_toArray, List.set_cons_zero, List.set_cons_succ])
    refine wpAnyL_one (i := 8) rfl (by kernel_rfl) (by rfl) ?_
    go_simp
    go_at_call 98
    (with_reducible refine (HNX.out s B fn _ HC3.out.st hB (by omega) (by omega)).mono ?_)
    rintro e u4 ⟨y, rfl, hy0, hy1, hst4, hg4⟩
    have HQ4 : Hid (Fq [s] u3 u4) := Lib.hid (Fq.refl.grown hg4 fun g hg => .inl (by injection hg with hg; simp [hg]))
    have HC4 : Hid (ArgI u4 B s hp hs hkb (some ⟨sb, so, none⟩) sn sc xs (some ⟨kb, ko, none⟩) kn kc ks) := Lib.hid (HC3.out.fq hst4 HQ4.out)
    have hR4 : Bk u4 r 341 #[.bool false, .int .i64 0, .int .i64 0, .int .i64 0] := HRu3.out.grown hg4 (fun e => by injection e with e; omega)
    have HQu4 : Hid (Fq [s] w u4) := Lib.hid (HQu3.out.trans HQ4.out (SubF.refl _ _))
    clear hst4 hg4
    refine And.intro (HKV.out _ HC4.out) ?_
    (try simp only [Act.put, List.setIfInBounds_toArray, List.set_cons_zero, List.set_cons_succ])
    refine wpAnyL_val (i := 9) (v := .agg #[.int .i64 (x : Int), .int .i64 y]) (d := some 28) rfl rfl (by kernel_rfl) (by kernel_rfl) (by kernel_rfl) (by kernel_rfl) (fun _ _ _ h => h) (Or.inl ⟨by rfl, fun w hS => by (obtain ⟨h0, h1, h2⟩ := hS; go_simp)⟩) (HKV.out _ HC4.out) ?_
    (try simp only [Act.put, List.setIfInBounds_toArray, List.set_cons_zero, List.set_cons_succ])
    refine wpAnyL_val (i := 10) (v := .agg #[.bool true, .int .i64 0, .int .i64 (x : Int), .int .i64 y]) (d := some 29) rfl rfl (by kernel_rfl) (by kernel_rfl) (by kernel_rfl) (by kernel_rfl) (fun _ _ _ h => h) (Or.inl ⟨by rfl, fun w hS => by (obtain ⟨h0, h1, h2⟩ := hS; go_simp)⟩) (HKV.out _ HC4.out) ?_
    (try simp only [Act.put, List.setIfInBounds_toArray, List.set_cons_zero, List.set_cons_succ])
    have z0 : u4.cell? ⟨r, 0, none⟩ = some (.bool false) := hR4.cell 0
    have z1 : u4.cell? ⟨r, 1, none⟩ = some (.int .i64 0) := hR4.cell 1
    have z2 : u4.cell? ⟨r, 2, none⟩ = some (.int .i64 0) := hR4.cell 2
    have z3 : u4.cell? ⟨r, 3, none⟩ = some (.int .i64 0) := hR4.cell 3
    have y0 := hR4.frozen 0
    have y1 := hR4.frozen 1
    have y2 := hR4.frozen 2
    have y3 := hR4.frozen 3
    have HK : Hid (∀ V0 V1 V2 V3, StrSt ((((u4.setCell ⟨r, 0, none⟩ V0).setCell ⟨r, 1, none⟩ V1).setCell ⟨r, 2, none⟩ V2).setCell ⟨r, 3, none⟩ V3) B s ∧ Fq [s] w ((((u4.setCell ⟨r, 0, none⟩ V0).setCell ⟨r, 1, none⟩ V1).setCell ⟨r, 2, none⟩ V2).setCell ⟨r, 3, none⟩ V3)) := Lib.hid fun V0 V1 V2 V3 => arg_end HC4.out.st hB hR4 (Fq.refl) HQu4.out HRW.out HBW.out V0 V1 V2 V3
    clear hR4
    refine wpAnyL_late (i := 11) rfl (by kernel_rfl) (by rfl) (by kernel_rfl) ?_
    go_simp
    (try simp only [Act.put, List.setIfInBounds_toArray, List.set_cons_zero, List.set_cons_succ])
    refine wpAnyL_done (by kernel_rfl) ?_ _
    go_wp2_with fail
    (try simp only [Exit.inBlock, Exit.then])
    refine bodyPost_ret (v := .agg #[.bool true, .int .i64 0, .int .i64 x, .int .i64 y]) ?_ rfl ⟨true, _, _, _, rfl, (HK.out _ _ _ _).1, (HK.out _ _ _ _).2⟩
    rw [results_c1 rfl]
    go_simp
end Go.Proofs.Ytnidcmhfbkdioaa
