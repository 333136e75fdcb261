/-
  Lemmas for the walk, merged (Mt Bx Kq). No condition but those in each statement.
-/
import Derived.Test.YtnidcmhfbkdioaaSz15
import Derived.Test.YtnidcmhfbkdioaaSz13
import Derived.Test.YtnidcmhfbkdioaaSz14
import Derived.Test.YtnidcmhfbkdioaaSz12
namespace Go.Proofs.Ytnidcmhfbkdioaa
/-! ### Mt -/
open Go.RowKit
set_option maxRecDepth 100000
theorem Kx.fq {w w' : World} {B B' s : Nat} (h : Fq [s] w w') (hs : StrSt w B s) (hB : B' ≤ s) : Kx B' [189] w w' := by
  obtain ⟨cs, hk⟩ := hs.bk
  refine ⟨h.size, fun b h1 h2 => h.low b h2 (by simp; omega), fun b t cs' h1 h2 => (h.low b h1.lt fun hb => ?_).trans h1⟩
  have e : b = s := by simpa using hb
  subst e
  exact Bk.ne_ h1 hk (fun e => h2 (by rw [e]; simp)) rfl
theorem StrSt.kx {w w' : World} {B B' s : Nat} {F : List TypeId} (h : StrSt w B s) (hq : Kx B' F w w') (hB : B ≤ B') (hw : B ≤ w.heap.size) (hF : (189 : TypeId) ∉ F) : StrSt w' B s := by
  obtain ⟨A, n, c, zs, h1, h2, h3, h4, h5, h6⟩ := h
  exact ⟨A, n, c, zs, hq.bk h1 hF, h2, h3, h4, h5.keep fun b hb => hq.low b (by omega) (by omega), h6⟩
theorem StrSt.lo {w : World} {B s : Nat} (h : StrSt w B s) (hB : B ≤ s) : B ≤ w.heap.size := by
  obtain ⟨cs, hk⟩ := h.bk
  have := hk.lt
  omega
theorem wrap_small {x : Int} (h1 : -9223372036854775808 ≤ x) (h2 : x ≤ 9223372036854775807) : wrap64 x = x := by unfold wrap64; omega
theorem wrap_small2 {x : Int} (h1 : -9223372036854775808 ≤ x) (h2 : x ≤ 9223372036854775807) : IntKind.i64.wrap x = x := by rw [IntKind.wrap_i64]; omega
theorem mk_range {fds : List Fd} {vs : List Int} {j bt : Nat} {lo v M : Int} {f : Fd} (hl : vs.length = j) (h : ∀ t f, t < j → fds[t]? = some f → f.low ≤ vs.getD t 0 ∧ vs.getD t 0 < f.low + 2 ^ f.bits.toNat) (hf : fds[j]? = some f) (hb : f.bits = bt) (hlo : f.low = lo) (hM : M = (2 : Int) ^ bt) (h0 : 0 ≤ v) (h1 : v < M) :
    ∀ t f, t < j + 1 → fds[t]? = some f → f.low ≤ (vs ++ [lo + v]).getD t 0 ∧ (vs ++ [lo + v]).getD t 0 < f.low + 2 ^ f.bits.toNat := by
  intro t g ht hg
  by_cases htj : t < j
  · have := h t g htj hg
    have e : (vs ++ [lo + v]).getD t 0 = vs.getD t 0 := by simp only [List.getD]; rw [List.getElem?_append_left (by omega)]
    rw [e]; exact this
  · have htj : t = j := by omega
    subst htj
    rw [hf] at hg
    injection hg with hg
    subst hg
    have e : (vs ++ [lo + v]).getD t 0 = lo + v := by rw [← hl]; simp [List.getD]
    rw [e, hlo, hb, Int.toNat_natCast, ← hM]
    constructor <;> omega
set_option maxHeartbeats 8000000 in
theorem mkcomps_any (s B : Nat) (A : Option Addr) (n c : Nat) (ks : List Kd) (w : World) (hst : StrSt w B s) (hB : B ≤ s) (hk : KsY w B A n c ks) (hone : ∀ k ∈ ks, oneF k.nm k.fds = 0) (hn : n ≤ 16) :
    Calls Try.prog 102 #[.slice A n c, .pointer (some ⟨s, 0, none⟩)] w fun e w' => ∃ (CA : Option Addr) (cc : Nat) (l : List Cm), e = .returned (.slice CA l.length cc) ∧ Hid (CsY w' 0 CA l.length cc l ∧ VCs holdK (ks.map Kd.p) (l.map Cm.p) ∧ Fr w.heap.size 0 l) ∧ StrSt w' B s ∧ Fq [s] w w' := by
  have HST := Lib.hid hst
  have HNX := Lib.hid next_any
  have HK := Lib.hid hk
  have HON := Lib.hid hone
  have hcap := hk.cap
  have hcap2 := hk.cap2
  have hsl : s < w.heap.size := by obtain ⟨cs, h⟩ := hst.bk; exact h.lt
  obtain ⟨i1, hi1, hz10, hz11, hz12⟩ := info_parts T.infoCm
  obtain ⟨i3, hi3, hz30, hz31, hz32⟩ := info_parts T.info3
  clear hst hk hone
  go_enter Try.func102, Try.ntmps102
  go_wp2_with fail
  go_loopw [5, 13] (fun ov iv wr => ∃ (i q oc : Nat) (OA : Option Addr) (l1 : List Cm), i ≤ n ∧ q ≤ i ∧ iv = .int .i64 i ∧ ov = .slice OA q oc ∧ Hid (wr.ownsRow w.heap.size 166 2 (.slice OA q oc) q (cmCs l1) ∧ q = l1.length ∧ (∀ z ∈ l1, CmY wr 0 z) ∧ CwI holdK (ks.map Kd.p) i (l1.map Cm.p) ∧ Fr w.heap.size 0 l1) ∧ Hid (StrSt wr B s) ∧ Hid (Fq [s] w wr)) (fun _ iv _ => n - (intOf iv).toNat)
  case atStart => exact ⟨0, 0, 0, none, [], Nat.zero_le _, Nat.le_refl _, rfl, rfl, Lib.hid ⟨World.ownsRow_nil _ _ _ _, rfl, (fun z hz => by cases hz), CwI.zero, (fun z hz => by cases hz)⟩, HST, Lib.hid Fq.refl⟩
  case round =>
    obtain ⟨i, q, oc, OA, l1, hi, hqi, rfl, rfl, HL, HS, HQ⟩ := hrel
    obtain ⟨wo, rfl⟩ : ∃ x, x = wr := ⟨_, rfl⟩
    by_cases hlt : i < n
    · have hiz : (i : Int) < n := by omega
      obtain ⟨k, hk⟩ : ∃ k, ks[i]? = some k := ⟨_, List.getElem?_eq_getElem (by have := HK.out.len; omega)⟩
      have hkx := Kx.fq (B' := B) HQ.out HST.out hB
      have hky := HK.out.keep hkx (by decide) (by decide)
      have hko := hky.ok k (List.mem_of_getElem? hk)
      obtain ⟨b, o, rfl, hbb, q0, q1⟩ := hky.rd.rd.kd hlt hk
      have hwsz : w.heap.size ≤ wo.heap.size := HQ.out.size
      obtain ⟨w1, hw1⟩ : ∃ w1, w1 = wo.alloc (.cells #[.string k.nm, .slice k.A k.n k.c] 63) := ⟨_, rfl⟩
      have HK1 : Hid (Bk w1 wo.heap.size 63 #[.string k.nm, .slice k.A k.n k.c]) := Lib.hid (by rw [hw1]; exact Bk.new _ _ _)
      have HB1 : Hid (Below wo.heap.size wo w1) := Lib.hid (by rw [hw1]; exact (Below.refl _ _).alloc (Nat.le_refl _) _)
      have HS1 : Hid (StrSt w1 B s) := Lib.hid (HS.out.below HB1.out (HS.out.lo hB))
      have HKO := Lib.hid hko
      have HKK := Lib.hid hk
      have hkcap := hko.cap
      have hkcap2 := hko.cap2
      clear hk hkx hky hko
      generalize hknm : k.nm = knm at *
      generalize hkA : k.A = kA at *
      generalize hkn : k.n = kn at *
      generalize hkc : k.c = kc at *
      have HKV := Lib.hid (And.intro hknm (And.intro hkA (And.intro hkn hkc)))
      clear hknm hkA hkn hkc
      go_wp2_with fail
      rw [← hw1]
      clear hw1 q0 q1
      (with_reducible refine (HNX.out s B 3 _ HS1.out hB (by omega) (by omega)).mono ?_)
      rintro e w2 ⟨v, rfl, hv0, hv1, hst2, hg2⟩
      have hxs : wo.heap.size ≠ s := by omega
      have hk2 : Bk w2 wo.heap.size 63 #[.string knm, .slice kA kn kc] := HK1.out.grown hg2 (fun e => by injection e with e; omega)
      have HQ2 : Hid (Fq [s] wo w2) := Lib.hid ((Fq.of_below HB1.out).grown hg2 fun g hg => .inl (by injection hg with hg; simp [hg]))
      have HS2 := Lib.hid hst2
      have HK2 := Lib.hid hk2
      clear hst2 hg2 hk2 HK1 HS1 HB1
      by_cases hv2 : v = 2
      · have t2 : (v == 2) = true := by simp [hv2]
        have hkx := Kx.fq (B' := 0) HQ2.out HS.out (Nat.zero_le _)
        have HLN : Hid (w2.ownsRow w.heap.size 166 2 (.slice OA q oc) q (cmCs l1) ∧ q = l1.length ∧ (∀ z ∈ l1, CmY w2 0 z) ∧ CwI holdK (ks.map Kd.p) (i + 1) (l1.map Cm.p) ∧ Fr w.heap.size 0 l1) := Lib.hid ⟨hkx.own HL.out.1 (by decide), HL.out.2.1, fun z hz => (HL.out.2.2.1 z hz).keep hkx (by decide), HL.out.2.2.2.1.skip, HL.out.2.2.2.2⟩
        have HQN : Hid (Fq [s] w w2) := Lib.hid (HQ.out.trans HQ2.out (SubF.refl _ _))
        clear hkx hv2
        go_wp2_with fail
        go_roundw
        case rel => exact ⟨i + 1, q, oc, OA, l1, by omega, by omega, by go_num, rfl, HLN, HS2, HQN⟩
        case measure => simp [intOf]; omega
      · have t2 : (v == 2) = false := by simp [hv2]
        clear hv2
        have c1 : w2.cell? ⟨wo.heap.size, 1, none⟩ = some (.slice kA kn kc) := HK2.out.cell 1
        have c2 : (w2.alloc (.cells #[.int .i64 (i : Int), .slice none 0 0] 166)).cell? ⟨wo.heap.size, 1, none⟩ = some (.slice kA kn kc) := (HK2.out.alloc _).cell 1
        obtain ⟨w3, hw3⟩ : ∃ w3, w3 = w2.alloc (.cells #[.int .i64 (i : Int), .slice none 0 0] 166) := ⟨_, rfl⟩
        have HB3 : Hid (Below w2.heap.size w2 w3) := Lib.hid (by rw [hw3]; exact (Below.refl _ _).alloc (Nat.le_refl _) _)
        have HC3 : Hid (Bk w3 w2.heap.size 166 #[.int .i64 (i : Int), .slice none 0 0]) := Lib.hid (by rw [hw3]; exact Bk.new _ _ _)
        have HS3 : Hid (StrSt w3 B s) := Lib.hid (HS2.out.below HB3.out (HS2.out.lo hB))
        have HQ3 : Hid (Fq [s] wo w3) := Lib.hid (HQ2.out.trans (Fq.of_below HB3.out) (SubF.refl _ _))
        have hw2s : wo.heap.size < w2.heap.size := HK2.out.lt
        have hkn8 : kn ≤ 8 := by
          have h1 := HON.out k (List.mem_of_getElem? HKK.out)
          have h2 := oneF_len h1
          have h3 := HKO.out.len
          rw [HKV.out.2.2.1] at h3
          omega
        go_wp2_with fail
        rw [← hw3]
        clear hw3 c1 c2
        obtain ⟨hc, hhc⟩ : ∃ hc, hc = w2.heap.size := ⟨_, rfl⟩
        rw [← hhc] at HC3 hw2s ⊢
        have HHC := Lib.hid hhc
        clear hhc
        go_loopw [26] (fun jv wx => ∃ (j vc : Nat) (VA : Option Addr) (vs : List Int), j ≤ kn ∧ jv = .int .i64 j ∧ Hid (Bk wx hc 166 #[.int .i64 (i : Int), .slice VA j vc] ∧ wx.ownsRow w2.heap.size 3 1 (.slice VA j vc) j (vs.map (Value.int .i64)) ∧ vs.length = j ∧ ∀ t f, t < j → k.fds[t]? = some f → f.low ≤ vs.getD t 0 ∧ vs.getD t 0 < f.low + 2 ^ f.bits.toNat) ∧ Hid (StrSt wx B s) ∧ Hid (Fq [s] wo wx)) (fun jv _ => kn - (intOf jv).toNat)
        case atStart => exact ⟨0, 0, none, [], Nat.zero_le _, rfl, Lib.hid ⟨HC3.out, World.ownsRow_nil _ _ _ _, rfl, (fun t f ht => by omega)⟩, HS3, HQ3⟩
        case round =>
          clear HC3 HS3 HQ3
          obtain ⟨j, vc, VA, vs, hj, rfl, HV, HSx, HQx⟩ := hrel
          by_cases hjl : j < kn
          · have hjz : (j : Int) < kn := by omega
            have hkf := Kx.fq (B' := B) HQx.out HS.out hB
            have hrd := (HKO.out.rd.keep hkf (by decide)).rd
            rw [HKV.out.2.1, HKV.out.2.2.1] at hrd
            obtain ⟨f, hf⟩ : ∃ f, k.fds[j]? = some f := ⟨_, List.getElem?_eq_getElem (by have := HKO.out.len; rw [HKV.out.2.2.1] at this; omega)⟩
            obtain ⟨fb, fo, rfl, hfb, e0, e1, e2⟩ := hrd.fd hjl hf
            have hfok := field_ok (one_ok (HON.out k (List.mem_of_getElem? HKK.out)) (List.mem_of_getElem? hf))
            have HF := Lib.hid hf
            clear hf hkf hrd
            generalize hfnm : f.nm = fnm at *
            obtain ⟨bt, hbt⟩ : ∃ bt : Nat, f.bits = bt := ⟨f.bits.toNat, by omega⟩
            generalize hlo : f.low = lo at *
            rw [hbt] at e1 hfok
            have p1 := pow2_one bt
            have p2 := pow2_32 bt (by omega)
            obtain ⟨M, hM⟩ : ∃ M, M = (2 : Int) ^ bt := ⟨_, rfl⟩
            rw [← hM] at p1 p2
            have hsh : wrap64 ((2 : Int) ^ bt) = M := by rw [← hM]; exact wrap_small (Int.le_trans (by decide) p1) (Int.le_trans p2 (by decide))
            have hsh2 : IntKind.i64.wrap ((2 : Int) ^ bt) = M := by rw [← hM]; exact wrap_small2 (Int.le_trans (by decide) p1) (Int.le_trans p2 (by decide))
            have HM := Lib.hid hM
            clear hM
            have HP := Lib.hid (And.intro p1 p2)
            have HFV := Lib.hid (And.intro hbt hlo)
            have hb32 : bt ≤ 32 := by omega
            have hb0 : (0 : Int) ≤ bt := by omega
            have hlo1 : -4294967296 ≤ lo := hfok.2.2.1
            have hlo2 : lo ≤ 4294967296 := hfok.2.2.2
            clear hfok p1 p2 hbt hlo hfnm
            obtain ⟨w5, hw5⟩ : ∃ w5, w5 = wr.alloc (.cells #[.string fnm, .int .i64 bt, .int .i64 lo] 66) := ⟨_, rfl⟩
            have HB5 : Hid (Below wr.heap.size wr w5) := Lib.hid (by rw [hw5]; exact (Below.refl _ _).alloc (Nat.le_refl _) _)
            have hh5 : Bk w5 wr.heap.size 66 #[.string fnm, .int .i64 bt, .int .i64 lo] := by rw [hw5]; exact Bk.new _ _ _
            have hcw : hc < wr.heap.size := HV.out.1.lt
            have hs5 : StrSt w5 B s := HSx.out.below HB5.out (HSx.out.lo hB)
            have hv5 : Bk w5 hc 166 #[.int .i64 (i : Int), .slice VA j vc] := HV.out.1.below HB5.out hcw
            have how5 : w5.ownsRow w2.heap.size 3 1 (.slice VA j vc) j (vs.map (Value.int .i64)) := (Kx.of_below (B := 0) (F := []) HB5.out).own HV.out.2.1 (by simp)
            go_wp2_with fail
            rw [← hw5]
            clear hw5 e0 e1 e2
            have hws : w.heap.size ≤ wo.heap.size := HQ.out.size
            have hfs : wr.heap.size ≠ s := by have := HQx.out.size; omega
            have hcs : hc ≠ s := by omega
            have hw5s : w.heap.size ≤ w5.heap.size := by have := HB5.out.size; have := HQx.out.size; omega
            have d1 : w5.cell? ⟨wr.heap.size, 1, none⟩ = some (.int .i64 bt) := hh5.cell 1
            have d2 : w5.cell? ⟨wr.heap.size, 2, none⟩ = some (.int .i64 lo) := hh5.cell 2
            have d3 : w5.cell? ⟨hc, 1, none⟩ = some (.slice VA j vc) := hv5.cell 1
            have HH5 := Lib.hid hh5
            have HV5 := Lib.hid hv5
            have HO5 := Lib.hid how5
            have HS5 := Lib.hid hs5
            have hw2w5 : w2.heap.size ≤ w5.heap.size := by have := HO5.out; have := HB5.out.size; have := HQx.out.size; have := HHC.out; omega
            clear hh5 hv5 how5 hs5
            go_region_law
              (first
                | (go_simp
                   go_at_call 98
                   (with_reducible refine (HNX.out s B M _ (HS5.out.below (w' := w5.drew) (Below.refl _ _).drew (HS5.out.lo hB)) hB HP.out.1 ?hM).mono ?_)
                   case hM => (have h := HP.out.2; omega)
                   rintro e w6 ⟨v6, rfl, hv60, hv61, hst6, hg6⟩
                   have hh6 := HH5.out.drew.grown hg6 (fun e => by injection e with e; omega)
                   have hv6 := HV5.out.drew.grown hg6 (fun e => by injection e with e; omega)
                   have hwv : IntKind.i64.wrap (lo + v6) = lo + v6 := by (have h := HP.out.2; exact wrap_small2 (by omega) (by omega))
                   have g1 : w6.cell? ⟨wr.heap.size, 1, none⟩ = some (.int .i64 bt) := hh6.cell 1
                   have g2 : w6.cell? ⟨wr.heap.size, 2, none⟩ = some (.int .i64 lo) := hh6.cell 2
                   have g3 : w6.cell? ⟨hc, 1, none⟩ = some (.slice VA j vc) := hv6.cell 1
                   have g4 : (w6.alloc (.cells #[.int .i64 (lo + v6)] 3)).cell? ⟨hc, 1, none⟩ = some (.slice VA j vc) := (hv6.alloc _).cell 1
                   have how6 : w6.ownsRow w2.heap.size 3 1 (.slice VA j vc) j (vs.map (Value.int .i64)) := own_keepB HO5.out fun g hg => hg6.block g (HO5.out.lt g hg).2 (fun e => by injection e with e; have := (HO5.out.lt g hg).1; have := HHC.out; omega))
                | (refine step_append_one rfl (.tmp 31) (.tmp 40) 30 rfl w2.heap.size 3 i3 (.int .i64 0) 1 8 Try.underlying30 hi3 hz30 hz31 hz32 rfl (by decide) (.slice VA j vc) j (vs.map (Value.int .i64)) rfl (World.ownsRow.alloc (w := w6) how6 _) w6.heap.size 1 3 #[.int .i64 (lo + v6)] rfl (Bk.new w6 _ _) rfl ?c1 (j + 1) rfl ?c2 ?c3 ?c4 ?_
                   case c1 => simp [Value.oneCell']
                   case c2 => unfold maxLen; omega
                   case c3 => omega
                   case c4 => (have := hg6.size; simp at this; simp; omega)
                   intro g7 c7 w7 hown7 hg7 hat7
                   have hv7 := (hv6.alloc (.cells #[.int .i64 (lo + v6)] 3)).grown hg7 (fun e => own_ne how6 hv6 (by decide) e.symm)
                   have e3 : w7.cell? ⟨hc, 1, none⟩ = some (.slice VA j vc) := hv7.cell 1
                   have f3 : w7.frozen? ⟨hc, 1, none⟩ = false := hv7.frozen 1))
            all_goals
              have hkx : Kx B [3, 166] w6 (w7.setCell ⟨hc, 1, none⟩ (.slice (some ⟨g7, 0, none⟩) (j + 1) c7)) := (((Kx.refl (B := B)).alloc _).grown (World.ownsRow.alloc (w := w6) how6 _) hg7 (by have := HHC.out; omega) (by simp)).set hv7 (by have := HHC.out; omega) (by simp) 1 _
              have HVN : Hid (Bk (w7.setCell ⟨hc, 1, none⟩ (.slice (some ⟨g7, 0, none⟩) (j + 1) c7)) hc 166 #[.int .i64 (i : Int), .slice (some ⟨g7, 0, none⟩) (j + 1) c7] ∧ (w7.setCell ⟨hc, 1, none⟩ (.slice (some ⟨g7, 0, none⟩) (j + 1) c7)).ownsRow w2.heap.size 3 1 (.slice (some ⟨g7, 0, none⟩) (j + 1) c7) (j + 1) ((vs ++ [lo + v6]).map (Value.int .i64)) ∧ (vs ++ [lo + v6]).length = j + 1 ∧ ∀ t f, t < j + 1 → k.fds[t]? = some f → f.low ≤ (vs ++ [lo + v6]).getD t 0 ∧ (vs ++ [lo + v6]).getD t 0 < f.low + 2 ^ f.bits.toNat) := Lib.hid
                ⟨by simpa using hv7.set_ 1 (.slice (some ⟨g7, 0, none⟩) (j + 1) c7), by rw [List.map_append]; exact own_far hown7 hv7 (by decide) 1 _, by rw [List.length_append, HV.out.2.2.1]; rfl, mk_range HV.out.2.2.1 HV.out.2.2.2 HF.out HFV.out.1 HFV.out.2 HM.out hv60 hv61⟩
              have HSN : Hid (StrSt (w7.setCell ⟨hc, 1, none⟩ (.slice (some ⟨g7, 0, none⟩) (j + 1) c7)) B s) := Lib.hid (hst6.kx hkx (Nat.le_refl _) (hst6.lo hB) (by decide))
              have HQN : Hid (Fq [s] wo (w7.setCell ⟨hc, 1, none⟩ (.slice (some ⟨g7, 0, none⟩) (j + 1) c7))) := Lib.hid ((((((HQx.out.trans (Fq.of_below HB5.out) (SubF.refl _ _)).drew).grown hg6 (fun g hg => .inl (by injection hg with hg; simp [hg]))).alloc _).grown hg7 (fun g hg => .inr (by have := (how6.lt g hg).1; have := HHC.out; omega))).set (.inr (by have := HHC.out; omega)) 1 _)
              clear hkx hown7 hg7 hat7 hv7 e3 f3 how6 g1 g2 g3 g4 hh6 hv6 hst6 hg6 hwv d1 d2 d3
              go_wp2_with fail
              go_roundw
              case rel => exact ⟨j + 1, c7, some ⟨g7, 0, none⟩, vs ++ [lo + v6], by omega, by go_num, HVN, HSN, HQN⟩
              case measure => simp [intOf]; omega
          · obtain rfl : kn = j := by omega
            have e0 : wr.cell? ⟨hc, 0, none⟩ = some (.int .i64 (i : Int)) := HV.out.1.cell 0
            have e1 : wr.cell? ⟨hc, 1, none⟩ = some (.slice VA kn vc) := HV.out.1.cell 1
            have hkx := Kx.fq (B' := 0) HQx.out HS.out (Nat.zero_le _)
            have HOW := Lib.hid (hkx.own HL.out.1 (by decide))
            have HZ : Hid (∀ z ∈ l1, CmY wr 0 z) := Lib.hid fun z hz => (HL.out.2.2.1 z hz).keep hkx (by decide)
            have hwsz2 : w.heap.size ≤ wr.heap.size := by have := HQx.out.size; omega
            clear hkx
            go_wp2_with
              (at_builtin
               go_must (refine wpList_append_one _ rfl (.tmp 44) (.tmp 46) _ rfl w.heap.size 166 i1 (.agg #[.int .i64 0, .slice none 0 0]) 2 32 Try.underlying38 hi1 hz10 hz11 hz12 rfl (by decide) (.slice OA q oc) q (cmCs l1) rfl (HOW.out.alloc _) wr.heap.size 1 166 #[.int .i64 (i : Int), .slice VA kn vc] rfl (Bk.new _ _ _) rfl ?c1 (q + 1) rfl ?c2 ?c3 ?c4 ?_)
               case c1 => simp [Value.oneCell']
               case c2 => unfold maxLen; omega
               case c3 => omega
               case c4 => (simp; omega)
               intro g8 c8 w8 hown8 hg8 hat8)
            have hkx8 : Kx 0 [166] wr w8 := ((Kx.refl (B := 0)).alloc _).grown (HOW.out.alloc _) hg8 (Nat.zero_le _) (by simp)
            have hcp := own_cap2 HV.out.2.1
            have hkl : kn = vs.length := HV.out.2.2.1.symm
            have HLN : Hid (w8.ownsRow w.heap.size 166 2 (.slice (some ⟨g8, 0, none⟩) (q + 1) c8) (q + 1) (cmCs (l1 ++ [(⟨i, VA, kn, vc, vs⟩ : Cm)])) ∧ q + 1 = (l1 ++ [(⟨i, VA, kn, vc, vs⟩ : Cm)]).length ∧ (∀ z ∈ l1 ++ [(⟨i, VA, kn, vc, vs⟩ : Cm)], CmY w8 0 z) ∧ CwI holdK (ks.map Kd.p) (i + 1) ((l1 ++ [(⟨i, VA, kn, vc, vs⟩ : Cm)]).map Cm.p) ∧ Fr w.heap.size 0 (l1 ++ [(⟨i, VA, kn, vc, vs⟩ : Cm)])) := Lib.hid ⟨by
                rw [show cmCs (l1 ++ [(⟨i, VA, kn, vc, vs⟩ : Cm)]) = cmCs l1 ++ (#[Value.int .i64 (i : Int), .slice VA kn vc] : Array Value).toList by simp [cmCs, Cm.cs]]
                exact hown8, by simp [HL.out.2.1], fun z hz => by
                rcases List.mem_append.1 hz with hz | hz
                · exact (HZ.out z hz).keep hkx8 (by decide)
                · rw [show z = ⟨i, VA, kn, vc, vs⟩ by simpa using hz]
                  exact ⟨(RdY.of_own HV.out.2.1).keep hkx8 (by decide), hkl, hcp.1, hcp.2, wf_i64 (by show _ ≤ ((i : Nat) : Int); omega) (by show ((i : Nat) : Int) ≤ _; omega)⟩, by
                rw [List.map_append]
                refine HL.out.2.2.2.1.keep (d := k.p) (by rw [List.getElem?_map, HKK.out]; rfl) ?_
                have hlen : vs.length = k.fds.length := by have := HKO.out.len; rw [HKV.out.2.2.1] at this; rw [← hkl]; exact this
                exact hold_of (HON.out k (List.mem_of_getElem? HKK.out)) hlen fun t f hf => HV.out.2.2.2 t f (by have := (List.getElem?_eq_some_iff.1 hf).1; have h9 : (k.p).2 = k.fds := rfl; rw [h9] at this; omega) hf, fun z hz hn b o hA => by
                rcases List.mem_append.1 hz with hz | hz
                · exact HL.out.2.2.2.2 z hz hn b o hA
                · rw [show z = ⟨i, VA, kn, vc, vs⟩ by simpa using hz] at hA
                  have hA : VA = some ⟨b, o, none⟩ := hA
                  subst hA
                  have := (HV.out.2.1.lt b rfl).1
                  have := HHC.out
                  exact .inr (by omega)⟩
            have HSN : Hid (StrSt w8 B s) := Lib.hid (HSx.out.kx (((Kx.refl (B := B)).alloc _).grown (F := [166]) (HOW.out.alloc _) hg8 (by have := HST.out.lo hB; omega) (by simp)) (Nat.le_refl _) (HSx.out.lo hB) (by decide))
            have HQN : Hid (Fq [s] w w8) := Lib.hid (((HQ.out.trans HQx.out (SubF.refl _ _)).alloc _).grown hg8 (fun g hg => .inr (HOW.out.lt g hg).1))
            clear hkx8 hown8 hg8 hat8 e0 e1
            go_wp2_with fail
            go_roundw
            case rel => first | exact ⟨i + 1, q + 1, c8, some ⟨g8, 0, none⟩, l1 ++ [(⟨i, VA, kn, vc, vs⟩ : Cm)], by omega, by omega, by go_num, rfl, HLN, HSN, HQN⟩ | ((repeat apply Exists.intro); exact ⟨⟨i + 1, q + 1, c8, some ⟨g8, 0, none⟩, l1 ++ [(⟨i, VA, kn, vc, vs⟩ : Cm)], by omega, by omega, by go_num, rfl, HLN, HSN, HQN⟩, rfl⟩)
            case measure => simp [intOf]; omega
    · obtain rfl : n = i := by omega
      have hcp := own_cap2 HL.out.1
      have hql := HL.out.2.1
      go_wp2_with fail
      go_ret
      subst hql
      exact ⟨OA, oc, l1, rfl, Lib.hid ⟨⟨RdY.of_own HL.out.1, rfl, hcp.1, hcp.2, HL.out.2.2.1⟩, HL.out.2.2.2.1.done, HL.out.2.2.2.2⟩, HS.out, HQ.out⟩
/-! ### Bx -/
noncomputable def vdOne : Code := (Try.f54.body.bind (blkN 5)).getD .skip
theorem Kx.grownS {w w' : World} {B s : Nat} {cs : Array Value} (hk : Bk w s 189 cs) (hg : w.grownBy w' (some s)) (hB : B ≤ s) : Kx B [189] w w' :=
  ⟨hg.size, fun b h1 h2 => hg.block b h2 (fun e => by injection e with e; omega), fun b t cs' h1 h2 => h1.grown hg fun e => by
    injection e with e
    subst e
    exact Bk.ne_ h1 hk (fun e => h2 (by simp [e])) rfl⟩
set_option maxHeartbeats 8000000 in
theorem vdOne_any {x0 x1 x2 x3 x4 x6 x7 x8 x9 x10 x12 x13 x14 x15 x16 x17 x18 x19 x20 x21 x22 x23 x24 x25 x26 x27 x28 x29 x30 x31 x32 x33 x34 x35 x36 x37 x38 x39 x40 x41 x42 x43 x44 x45 x46 x47 x48 x49 x50 x51 x52 x53 x54 x55 x56 x58 x60 x61 x62 x63 x64 x65 x66 x67 x68 x69 x70 x71 x72 x73 x74 x75 x76 x77 x78 x79 x80 x81 x82 x83 x84 x85 x86 x87 x88 x89 x90 x91 x92 x93 x94 x95 x96 x97 x98 x99 x100 x101 x102 x103 x104 x105 x106 x107 x108 : Value} {Q : Exit → Act → World → Prop} {wI w0 : World} {B D base s cA fn fc j vc i : Nat} {fA VA : Option Addr} {fds : List Fd} {f : Fd} {vs : List Int}
    (hst : StrSt w0 B s) (hB : B ≤ s) (hrd : Rd w0 D 3 fA fn (fdCs fds)) (_hfn : fn ≤ fc) (_hfc : fc ≤ 9223372036854775807) (hj : fds[j]? = some f) (hjl : j < fn) (hfok : 1 ≤ f.bits ∧ f.bits ≤ 32 ∧ -4294967296 ≤ f.low ∧ f.low ≤ 4294967296) (hj8 : j ≤ 64)
    (hc : Bk w0 cA 166 #[.int .i64 (i : Int), .slice VA j vc]) (ho : w0.ownsRow base 3 1 (.slice VA j vc) j (vs.map (Value.int .i64))) (hBb : B ≤ base) (hbase : base ≤ w0.heap.size) (hcA : base ≤ cA) (hQ : Fq [s] wI w0) (hI : wI.heap.size ≤ base)
    (hN : ∀ (y13 y61 y62 y63 y64 y65 y66 y67 y68 y69 y70 y71 y72 y73 y74 y75 : Value) (v : Int) (g7 c7 : Nat) (w' : World), Hid (0 ≤ v ∧ v < (2 : Int) ^ f.bits.toNat ∧ StrSt w' B s ∧ Bk w' cA 166 #[.int .i64 (i : Int), .slice (some ⟨g7, 0, none⟩) (j + 1) c7] ∧ w'.ownsRow base 3 1 (.slice (some ⟨g7, 0, none⟩) (j + 1) c7) (j + 1) ((vs ++ [f.low + v]).map (Value.int .i64)) ∧ Fq [s] wI w' ∧ Kx B [189, 3, 166] w0 w') → Q .normal ⟨#[x0, x1, x2, x3, x4, .pointer (some ⟨s, 0, none⟩), x6, x7, x8, x9, x10, .pointer (some ⟨cA, 0, none⟩), x12, y13, x14, x15, x16, x17, x18, x19, x20, x21, x22, x23, x24, x25, x26, x27, x28, x29, x30, x31, x32, x33, x34, x35, x36, x37, x38, x39, x40, x41, x42, x43, x44, x45, x46, x47, x48, x49, x50, x51, x52, x53, x54, x55, x56, .slice fA fn fc, x58, .int .i64 (j : Int), x60, y61, y62, y63, y64, y65, y66, y67, y68, y69, y70, y71, y72, y73, y74, y75, x76, x77, x78, x79, x80, x81, x82, x83, x84, x85, x86, x87, x88, x89, x90, x91, x92, x93, x94, x95, x96, x97, x98, x99, x100, x101, x102, x103, x104, x105, x106, x107, x108], []⟩ w') :
    Code.wp Try.prog vdOne Q ⟨#[x0, x1, x2, x3, x4, .pointer (some ⟨s, 0, none⟩), x6, x7, x8, x9, x10, .pointer (some ⟨cA, 0, none⟩), x12, x13, x14, x15, x16, x17, x18, x19, x20, x21, x22, x23, x24, x25, x26, x27, x28, x29, x30, x31, x32, x33, x34, x35, x36, x37, x38, x39, x40, x41, x42, x43, x44, x45, x46, x47, x48, x49, x50, x51, x52, x53, x54, x55, x56, .slice fA fn fc, x58, .int .i64 (j : Int), x60, x61, x62, x63, x64, x65, x66, x67, x68, x69, x70, x71, x72, x73, x74, x75, x76, x77, x78, x79, x80, x81, x82, x83, x84, x85, x86, x87, x88, x89, x90, x91, x92, x93, x94, x95, x96, x97, x98, x99, x100, x101, x102, x103, x104, x105, x106, x107, x108], []⟩ w0 := by
  conv => arg 2; whnf
  obtain ⟨i3, hi3, hz30, hz31, hz32⟩ := info_parts T.info3
  obtain ⟨fb, fo, rfl, hfb, e0, e1, e2⟩ := hrd.fd hjl hj
  have hjz : (j : Int) < fn := by omega
  have hjz0 : (0 : Int) ≤ j := by omega
  have HNX := Lib.hid next_any
  have HFL : Hid (f.bits.toNat = f.bits.toNat) := Lib.hid rfl
  generalize f.nm = fnm at *
  obtain ⟨bt, hbt⟩ : ∃ bt : Nat, f.bits = bt := ⟨f.bits.toNat, by omega⟩
  generalize hlo : f.low = lo at *
  rw [hbt] at e1 hfok hN
  rw [Int.toNat_natCast] at hN
  have p1 := pow2_one bt
  have p2 := pow2_32 bt (by omega)
  obtain ⟨M, hM⟩ : ∃ M, M = (2 : Int) ^ bt := ⟨_, rfl⟩
  rw [← hM] at p1 p2 hN
  have hsh : wrap64 ((2 : Int) ^ bt) = M := by rw [← hM]; exact wrap_small (Int.le_trans (by decide) p1) (Int.le_trans p2 (by decide))
  have hsh2 : IntKind.i64.wrap ((2 : Int) ^ bt) = M := by rw [← hM]; exact wrap_small2 (Int.le_trans (by decide) p1) (Int.le_trans p2 (by decide))
  have HM := Lib.hid hM
  clear hM
  have HP := Lib.hid (And.intro p1 p2)
  have hb32 : bt ≤ 32 := by omega
  have hb0 : (0 : Int) ≤ bt := by omega
  have hlo1 : -4294967296 ≤ lo := hfok.2.2.1
  have hlo2 : lo ≤ 4294967296 := hfok.2.2.2
  clear hfok p1 p2 hbt hlo hrd hj hfb HFL
  obtain ⟨w5, hw5⟩ : ∃ w5, w5 = w0.alloc (.cells #[.string fnm, .int .i64 bt, .int .i64 lo] 66) := ⟨_, rfl⟩
  obtain ⟨hf, hhf⟩ : ∃ z, z = w0.heap.size := ⟨_, rfl⟩
  have HB5 : Hid (Below w0.heap.size w0 w5) := Lib.hid (by rw [hw5]; exact (Below.refl _ _).alloc (Nat.le_refl _) _)
  have hh5 : Bk w5 hf 66 #[.string fnm, .int .i64 bt, .int .i64 lo] := by rw [hw5, hhf]; exact Bk.new _ _ _
  have hs5 : StrSt w5 B s := hst.below HB5.out (hst.lo hB)
  have hv5 : Bk w5 cA 166 #[.int .i64 (i : Int), .slice VA j vc] := hc.below HB5.out hc.lt
  have how5 : w5.ownsRow base 3 1 (.slice VA j vc) j (vs.map (Value.int .i64)) := (Kx.of_below (B := 0) (F := []) HB5.out).own ho (by simp)
  have hbs : B ≤ w0.heap.size := hst.lo hB
  obtain ⟨scs, hsk⟩ := hs5.bk
  have hfs : hf ≠ s := hh5.ne_ hsk (by decide)
  have hcs : cA ≠ s := hv5.ne_ hsk (by decide)
  have HRS : Hid (∀ g, (Value.slice VA j vc).ownBlock = some g → g ≠ s) := Lib.hid fun g hg e => own_ne how5 hsk (by decide) (by rw [hg, e])
  have HSZ5 : Hid (base ≤ w5.heap.size) := Lib.hid (Nat.le_trans hbase HB5.out.size)
  clear hst hc ho hsk
  go_upto_region 17 with fail
  rw [← hw5, ← hhf]
  clear hw5 hhf e0 e1 e2
  have d1 : w5.cell? ⟨hf, 1, none⟩ = some (.int .i64 bt) := hh5.cell 1
  have d2 : w5.cell? ⟨hf, 2, none⟩ = some (.int .i64 lo) := hh5.cell 2
  have d3 : w5.cell? ⟨cA, 1, none⟩ = some (.slice VA j vc) := hv5.cell 1
  have HH5 := Lib.hid hh5
  have HV5 := Lib.hid hv5
  have HO5 := Lib.hid how5
  have HS5 := Lib.hid hs5
  clear hh5 hv5 how5 hs5
  refine wp_region_noPanic ?_
  go_region_law
    (first
      | (go_simp
         go_at_call 98
         (with_reducible refine (HNX.out s B M _ (HS5.out.below (w' := w5.drew) (Below.refl _ _).drew (HS5.out.lo hB)) hB HP.out.1 ?hM).mono ?_)
         case hM => (have h := HP.out.2; omega)
         rintro e w6 ⟨v6, rfl, hv60, hv61, hst6, hg6⟩
         have hh6 := HH5.out.drew.grown hg6 (fun e => by injection e with e; omega)
         have hv6 := HV5.out.drew.grown hg6 (fun e => by injection e with e; omega)
         have hwv : IntKind.i64.wrap (lo + v6) = lo + v6 := by (have h := HP.out.2; exact wrap_small2 (by omega) (by omega))
         have g1 : w6.cell? ⟨hf, 1, none⟩ = some (.int .i64 bt) := hh6.cell 1
         have g2 : w6.cell? ⟨hf, 2, none⟩ = some (.int .i64 lo) := hh6.cell 2
         have g3 : w6.cell? ⟨cA, 1, none⟩ = some (.slice VA j vc) := hv6.cell 1
         have g4 : (w6.alloc (.cells #[.int .i64 (lo + v6)] 3)).cell? ⟨cA, 1, none⟩ = some (.slice VA j vc) := (hv6.alloc _).cell 1
         have how6 : w6.ownsRow base 3 1 (.slice VA j vc) j (vs.map (Value.int .i64)) := own_keepB HO5.out fun g hg => hg6.block g (HO5.out.lt g hg).2 (fun e => by injection e with e; exact HRS.out g hg e))
      | (refine step_append_one rfl (.tmp 64) (.tmp 73) 30 rfl base 3 i3 (.int .i64 0) 1 8 Try.underlying30 hi3 hz30 hz31 hz32 rfl (by decide) (.slice VA j vc) j (vs.map (Value.int .i64)) rfl (World.ownsRow.alloc (w := w6) how6 _) w6.heap.size 1 3 #[.int .i64 (lo + v6)] rfl (Bk.new w6 _ _) rfl ?c1 (j + 1) rfl ?c2 ?c3 ?c4 ?_
         case c1 => simp [Value.oneCell']
         case c2 => unfold maxLen; omega
         case c3 => omega
         case c4 => (have h1 := hg6.size; have h2 := HSZ5.out; simp at h1; simp; omega)
         intro g7 c7 w7 hown7 hg7 hat7
         have hv7 := (hv6.alloc (.cells #[.int .i64 (lo + v6)] 3)).grown hg7 (fun e => own_ne how6 hv6 (by decide) e.symm)
         have e3 : w7.cell? ⟨cA, 1, none⟩ = some (.slice VA j vc) := hv7.cell 1
         have f3 : w7.frozen? ⟨cA, 1, none⟩ = false := hv7.frozen 1))
  all_goals
    obtain ⟨scs5, hsk5⟩ := HS5.out.bk
    have hk6 : Kx B [189, 3, 166] w0 w6 := ((Kx.of_below HB5.out).drew.trans ((Kx.grownS hsk5.drew hg6 hB).mono (Nat.le_refl _) (by simp)))
    have hkx : Kx B [3, 166] w6 (w7.setCell ⟨cA, 1, none⟩ (.slice (some ⟨g7, 0, none⟩) (j + 1) c7)) := (((Kx.refl (B := B)).alloc _).grown (World.ownsRow.alloc (w := w6) how6 _) hg7 hBb (by simp)).set hv7 (by omega) (by simp) 1 _
    have hfq : Fq [s] wI (w7.setCell ⟨cA, 1, none⟩ (.slice (some ⟨g7, 0, none⟩) (j + 1) c7)) := ((((((hQ.trans (Fq.of_below HB5.out) (SubF.refl _ _)).drew).grown hg6 (fun g hg => .inl (by injection hg with hg; simp [hg]))).alloc _).grown hg7 (fun g hg => .inr (by have := (how6.lt g hg).1; omega))).set (.inr (by omega)) 1 _)
    have hkn : Kx B [189, 3, 166] w0 (w7.setCell ⟨cA, 1, none⟩ (.slice (some ⟨g7, 0, none⟩) (j + 1) c7)) := hk6.trans (hkx.mono (Nat.le_refl _) (by simp))
    have HF : Hid (0 ≤ v6 ∧ v6 < M ∧ StrSt (w7.setCell ⟨cA, 1, none⟩ (.slice (some ⟨g7, 0, none⟩) (j + 1) c7)) B s ∧ Bk (w7.setCell ⟨cA, 1, none⟩ (.slice (some ⟨g7, 0, none⟩) (j + 1) c7)) cA 166 #[.int .i64 (i : Int), .slice (some ⟨g7, 0, none⟩) (j + 1) c7] ∧ (w7.setCell ⟨cA, 1, none⟩ (.slice (some ⟨g7, 0, none⟩) (j + 1) c7)).ownsRow base 3 1 (.slice (some ⟨g7, 0, none⟩) (j + 1) c7) (j + 1) ((vs ++ [lo + v6]).map (Value.int .i64)) ∧ Fq [s] wI (w7.setCell ⟨cA, 1, none⟩ (.slice (some ⟨g7, 0, none⟩) (j + 1) c7)) ∧ Kx B [189, 3, 166] w0 (w7.setCell ⟨cA, 1, none⟩ (.slice (some ⟨g7, 0, none⟩) (j + 1) c7))) := Lib.hid
      ⟨hv60, hv61, hst6.kx hkx (Nat.le_refl _) (hst6.lo hB) (by decide), by simpa using hv7.set_ 1 (.slice (some ⟨g7, 0, none⟩) (j + 1) c7), by rw [List.map_append]; exact own_far hown7 hv7 (by decide) 1 _, hfq, hkn⟩
    clear hkx hkn hk6 hown7 hg7 hat7 hv7 e3 f3 how6 g1 g2 g3 g4 hh6 hv6 hst6 hg6 hwv d1 d2 d3 hsk5
    (try refine NoPanic.normal ?_)
    (try simp only [Exit.inBlock])
    first
      | exact HF
      | exact hN _ _ _ _ _ _ _ _ _ _ _ _ _ _ _ _ v6 g7 c7 _ HF
/-! ### Kq -/
theorem own_keep {w w' : World} {base : Nat} {e : TypeId} {size n : Nat} {v : Value} {xs : List Value} (h : w.ownsRow base e size v n xs) (hb : Below w.heap.size w w') : w'.ownsRow base e size v n xs :=
  h.kept (row := none) ⟨hb.os, hb.tape, hb.output, hb.size, fun k hk _ => hb.block k hk⟩ (by cases hv : v.ownBlock <;> simp)
theorem T.info63 : (Try.prog.info? 63).map (fun i => (i.zero, i.size, i.bytes)) = some (some (.agg #[.string ByteArray.empty, .slice none 0 0]), 2, 40) := by kernel_rfl
theorem and41 : (bits BinOp.and IntKind.i64 4 1 == 1) = false := by decide +kernel
theorem and42 : (bits BinOp.and IntKind.i64 4 2 == 2) = false := by decide +kernel
theorem and44 : (bits BinOp.and IntKind.i64 4 4 == 4) = true := by decide +kernel
/-- A kind whose fields lie in a block of the call's own. -/
structure Bd where
  nm : ByteArray
  g : Nat
  fds : List Fd
def Bd.kd (x : Bd) : Kd := ⟨x.nm, some ⟨x.g, 0, none⟩, x.fds.length, x.fds.length, x.fds⟩
theorem kdCs_append (a b : List Kd) : kdCs (a ++ b) = kdCs a ++ kdCs b := by simp [kdCs]
structure KSt (w wr : World) (S : Value) (m : Nat) (l : List Bd) : Prop where
  own : wr.ownsRow w.heap.size 63 2 S m (kdCs (l.map Bd.kd))
  bk : ∀ x ∈ l, Bk wr x.g 66 (fdCs x.fds).toArray
  bl : Below w.heap.size w wr
theorem KSt.below {w wr w' : World} {S : Value} {m : Nat} {l : List Bd} (h : KSt w wr S m l) (hb : Below wr.heap.size wr w') : KSt w w' S m l :=
  ⟨own_keep h.own hb, fun x hx => (h.bk x hx).below hb (h.bk x hx).lt, h.bl.trans (hb.mono h.bl.size)⟩
theorem KSt.start {w wr : World} (hb : Below w.heap.size w wr) (x : Bd) (hx : x.g = wr.heap.size) :
    KSt w ((wr.alloc (.cells (fdCs x.fds).toArray 66)).alloc (.cells x.kd.cs.toArray 63)) (.slice (some ⟨wr.heap.size + 1, 0, none⟩) 1 1) 1 [x] := by
  have hs := hb.size
  refine ⟨?_, fun y hy => ?_, (hb.alloc hs _).alloc (by simp; omega) _⟩
  · have := World.ownsRow_lit (base := w.heap.size) (e := 63) (size := 2) (wr.alloc (.cells (fdCs x.fds).toArray 66)) x.kd.cs.toArray 1 (by simp; omega) (by decide) rfl
    simpa [kdCs] using this
  · rw [List.mem_singleton.1 hy, hx]
    exact (Bk.new wr 66 _).alloc _
theorem KSt.push {w wr w' : World} {S S' : Value} {m : Nat} {l : List Bd} (h : KSt w wr S m l) (x : Bd) (hx : x.g = wr.heap.size)
    (hown : w'.ownsRow w.heap.size 63 2 S' (m + 1) (kdCs (l.map Bd.kd) ++ x.kd.cs.toArray.toList)) (hg : ((wr.alloc (.cells (fdCs x.fds).toArray 66)).alloc (.cells x.kd.cs.toArray 63)).grownBy w' S.ownBlock) :
    KSt w w' S' (m + 1) (l ++ [x]) := by
  have hs := h.bl.size
  have ho := (h.own.alloc (.cells (fdCs x.fds).toArray 66)).alloc (.cells x.kd.cs.toArray 63)
  refine ⟨?_, fun y hy => ?_, ((h.bl.alloc hs _).alloc (by simp; omega) _).grown hg (by simp; omega) fun q hq => (h.own.lt q hq).1⟩
  · rw [List.map_append, kdCs_append]
    simpa [kdCs] using hown
  · have hb : Bk ((wr.alloc (.cells (fdCs x.fds).toArray 66)).alloc (.cells x.kd.cs.toArray 63)) y.g 66 (fdCs y.fds).toArray := by
      rcases List.mem_append.1 hy with hy | hy
      · exact ((h.bk y hy).alloc _).alloc _
      · rw [List.mem_singleton.1 hy, hx]
        exact (Bk.new wr 66 _).alloc _
    exact hb.grown hg fun e => own_ne ho hb (by decide) e.symm
theorem KSt.ks {w wr : World} {A : Option Addr} {m c : Nat} {l : List Bd} (h : KSt w wr (.slice A m c) m l) (hm : m = l.length) (hc : m ≤ c) (hc2 : c ≤ 9223372036854775807) (hl : ∀ x ∈ l, x.fds.length ≤ 8) : KsOk wr wr.heap.size A m c (l.map Bd.kd) := by
  refine ⟨Rd.of_own h.own, by rw [List.length_map]; exact hm, hc, hc2, fun k hk => ?_, Nat.le_refl _⟩
  obtain ⟨x, hx, rfl⟩ := List.mem_map.1 hk
  have hb := h.bk x hx
  refine ⟨⟨?_, fun _ => ⟨_, _, rfl, hb.lt, fun j u hu => ?_⟩⟩, rfl, Nat.le_refl _, ?_⟩
  · show (fdCs x.fds).length = x.fds.length * 3
    generalize x.fds = f
    induction f with
    | nil => rfl
    | cons a f ih => simp only [fdCs, List.flatMap_cons] at ih ⊢; rw [List.length_append, ih]; simp [Fd.cs]; omega
  · rw [Nat.zero_add]
    exact (hb.cell j).trans (by have hu' : (fdCs x.fds)[j]? = some u := hu; simpa using hu')
  · have := hl x hx
    show x.fds.length ≤ _
    omega
def k4f0 : List Fd := [⟨⟨#[120]⟩, 8, (-100)⟩, ⟨⟨#[121]⟩, 8, (-100)⟩]
def k4n0 : ByteArray := ⟨#[115, 112, 111, 116]⟩
def k4f1 : List Fd := [⟨⟨#[120]⟩, 26, (-33554432)⟩, ⟨⟨#[121]⟩, 26, (-33554432)⟩, ⟨⟨#[97, 110, 103]⟩, 16, 0⟩]
def k4n1 : ByteArray := ⟨#[112, 108, 97, 99, 101]⟩
def k4f2 : List Fd := [⟨⟨#[118, 120]⟩, 22, (-2097152)⟩, ⟨⟨#[118, 121]⟩, 22, (-2097152)⟩, ⟨⟨#[115, 112, 105, 110]⟩, 18, (-131072)⟩, ⟨⟨#[99, 97, 108, 109]⟩, 12, 0⟩]
def k4n2 : ByteArray := ⟨#[109, 111, 116, 105, 111, 110]⟩
def k4f3 : List Fd := [⟨⟨#[119]⟩, 18, 4096⟩, ⟨⟨#[104]⟩, 18, 4096⟩, ⟨⟨#[109, 97, 115, 115]⟩, 20, 0⟩, ⟨⟨#[98, 111, 117, 110, 99, 101]⟩, 17, 0⟩, ⟨⟨#[114, 117, 98]⟩, 17, 0⟩]
def k4n3 : ByteArray := ⟨#[115, 104, 97, 112, 101]⟩
def k4 : List (ByteArray × List Fd) := [(k4n0, k4f0), (k4n1, k4f1), (k4n2, k4f2), (k4n3, k4f3)]
def Kinds4P (w : World) (e : Ending) (w' : World) : Prop := ∃ A c ks, e = .returned (.slice A 4 c) ∧ KsOk w' w'.heap.size A 4 c ks ∧ ks.map Kd.p = k4 ∧ Below w.heap.size w w'
set_option maxHeartbeats 3200000 in
theorem kinds4_any (w : World) : Calls Try.prog 96 #[.int .i64 4] w (Kinds4P w) := by
  obtain ⟨i0, hi0, hz0, hz1, hz2⟩ := info_parts T.info63
  have HF := Lib.hid fieldMk_any
  have t1 := and41
  have t2 := and42
  have t3 := and44
  go_enter Try.func96, Try.ntmps96
  go_wp2_with fail
  refine (HF.out ⟨#[120]⟩ 8 (-100) _).mono ?_
  rintro e w1 ⟨rfl, hb1⟩
  have HB1 := Lib.hid hb1
  clear hb1
  go_wp2_with fail
  refine (HF.out ⟨#[121]⟩ 8 (-100) _).mono ?_
  rintro e w2 ⟨rfl, hb2⟩
  have HB2 := Lib.hid (HB1.out.trans (hb2.mono HB1.out.size))
  clear hb2 HB1
  have HS : Hid (KSt w ((w2.alloc (.cells #[.string ⟨#[120]⟩, .int .i64 8, .int .i64 (-100), .string ⟨#[121]⟩, .int .i64 8, .int .i64 (-100)] 66)).alloc (.cells #[.string ⟨#[115, 112, 111, 116]⟩, .slice (some ⟨w2.heap.size, 0, none⟩) 2 2] 63)) (.slice (some ⟨w2.heap.size + 1, 0, none⟩) 1 1) 1 [⟨k4n0, w2.heap.size, k4f0⟩]) := Lib.hid (KSt.start HB2.out ⟨k4n0, w2.heap.size, k4f0⟩ rfl)
  clear HB2
  go_wp2_with fail
  refine (HF.out ⟨#[120]⟩ 26 (-33554432) _).mono ?_
  rintro e w3 ⟨rfl, hb3⟩
  have HS3 := Lib.hid (HS.out.below hb3)
  clear hb3 HS
  go_wp2_with fail
  refine (HF.out ⟨#[121]⟩ 26 (-33554432) _).mono ?_
  rintro e w4 ⟨rfl, hb4⟩
  have HS4 := Lib.hid (HS3.out.below hb4)
  clear hb4 HS3
  go_wp2_with fail
  refine (HF.out ⟨#[97, 110, 103]⟩ 16 0 _).mono ?_
  rintro e w5 ⟨rfl, hb5⟩
  have HS5 := Lib.hid (HS4.out.below hb5)
  clear hb5 HS4
  go_wp2_with
    (at_builtin
     go_must (refine wpList_append_one _ rfl (.tmp 33) (.tmp 39) _ rfl w.heap.size 63 i0 (.agg #[.string ByteArray.empty, .slice none 0 0]) 2 40 Try.underlying22 hi0 hz0 hz1 hz2 rfl (by decide) (.slice (some ⟨w2.heap.size + 1, 0, none⟩) 1 1) 1 _ rfl ((HS5.out.own.alloc _).alloc _) (w5.heap.size + 1) 1 63 #[.string ⟨#[112, 108, 97, 99, 101]⟩, .slice (some ⟨w5.heap.size, 0, none⟩) 3 3] rfl (Bk.new2 _ _ _ _) rfl ?c1 2 rfl ?c2 ?c3 ?c4 ?_)
     case c1 => simp [Value.oneCell']
     case c2 => unfold maxLen; omega
     case c3 => omega
     case c4 => (have := HS5.out.bl.size; simp; omega)
     intro g1 c1 v1 hown hg hat
     have HT1 : Hid (KSt w v1 (.slice (some ⟨g1, 0, none⟩) 2 c1) 2 [⟨k4n0, w2.heap.size, k4f0⟩, ⟨k4n1, w5.heap.size, k4f1⟩]) := Lib.hid (HS5.out.push ⟨k4n1, w5.heap.size, k4f1⟩ rfl hown hg)
     clear hown hg hat HS5)
  go_wp2_with fail
  refine (HF.out ⟨#[118, 120]⟩ 22 (-2097152) _).mono ?_
  rintro e w6 ⟨rfl, hb6⟩
  have HS6 := Lib.hid (HT1.out.below hb6)
  clear hb6 HT1
  go_wp2_with fail
  refine (HF.out ⟨#[118, 121]⟩ 22 (-2097152) _).mono ?_
  rintro e w7 ⟨rfl, hb7⟩
  have HS7 := Lib.hid (HS6.out.below hb7)
  clear hb7 HS6
  go_wp2_with fail
  refine (HF.out ⟨#[115, 112, 105, 110]⟩ 18 (-131072) _).mono ?_
  rintro e w8 ⟨rfl, hb8⟩
  have HS8 := Lib.hid (HS7.out.below hb8)
  clear hb8 HS7
  go_wp2_with fail
  refine (HF.out ⟨#[99, 97, 108, 109]⟩ 12 0 _).mono ?_
  rintro e w9 ⟨rfl, hb9⟩
  have HS9 := Lib.hid (HS8.out.below hb9)
  clear hb9 HS8
  go_wp2_with
    (at_builtin
     go_must (refine wpList_append_one _ rfl (.tmp 41) (.tmp 48) _ rfl w.heap.size 63 i0 (.agg #[.string ByteArray.empty, .slice none 0 0]) 2 40 Try.underlying22 hi0 hz0 hz1 hz2 rfl (by decide) (.slice (some ⟨g1, 0, none⟩) 2 c1) 2 _ rfl ((HS9.out.own.alloc _).alloc _) (w9.heap.size + 1) 1 63 #[.string ⟨#[109, 111, 116, 105, 111, 110]⟩, .slice (some ⟨w9.heap.size, 0, none⟩) 4 4] rfl (Bk.new2 _ _ _ _) rfl ?c1 3 rfl ?c2 ?c3 ?c4 ?_)
     case c1 => simp [Value.oneCell']
     case c2 => unfold maxLen; omega
     case c3 => omega
     case c4 => (have := HS9.out.bl.size; simp; omega)
     intro g2 c2 v2 hown hg hat
     have HT2 : Hid (KSt w v2 (.slice (some ⟨g2, 0, none⟩) 3 c2) 3 [⟨k4n0, w2.heap.size, k4f0⟩, ⟨k4n1, w5.heap.size, k4f1⟩, ⟨k4n2, w9.heap.size, k4f2⟩]) := Lib.hid (HS9.out.push ⟨k4n2, w9.heap.size, k4f2⟩ rfl hown hg)
     clear hown hg hat HS9)
  go_wp2_with fail
  refine (HF.out ⟨#[119]⟩ 18 4096 _).mono ?_
  rintro e w10 ⟨rfl, hb10⟩
  have HS10 := Lib.hid (HT2.out.below hb10)
  clear hb10 HT2
  go_wp2_with fail
  refine (HF.out ⟨#[104]⟩ 18 4096 _).mono ?_
  rintro e w11 ⟨rfl, hb11⟩
  have HS11 := Lib.hid (HS10.out.below hb11)
  clear hb11 HS10
  go_wp2_with fail
  refine (HF.out ⟨#[109, 97, 115, 115]⟩ 20 0 _).mono ?_
  rintro e w12 ⟨rfl, hb12⟩
  have HS12 := Lib.hid (HS11.out.below hb12)
  clear hb12 HS11
  go_wp2_with fail
  refine (HF.out ⟨#[98, 111, 117, 110, 99, 101]⟩ 17 0 _).mono ?_
  rintro e w13 ⟨rfl, hb13⟩
  have HS13 := Lib.hid (HS12.out.below hb13)
  clear hb13 HS12
  go_wp2_with fail
  refine (HF.out ⟨#[114, 117, 98]⟩ 17 0 _).mono ?_
  rintro e w14 ⟨rfl, hb14⟩
  have HS14 := Lib.hid (HS13.out.below hb14)
  clear hb14 HS13
  go_wp2_with
    (at_builtin
     go_must (refine wpList_append_one _ rfl (.tmp 50) (.tmp 58) _ rfl w.heap.size 63 i0 (.agg #[.string ByteArray.empty, .slice none 0 0]) 2 40 Try.underlying22 hi0 hz0 hz1 hz2 rfl (by decide) (.slice (some ⟨g2, 0, none⟩) 3 c2) 3 _ rfl ((HS14.out.own.alloc _).alloc _) (w14.heap.size + 1) 1 63 #[.string ⟨#[115, 104, 97, 112, 101]⟩, .slice (some ⟨w14.heap.size, 0, none⟩) 5 5] rfl (Bk.new2 _ _ _ _) rfl ?c1 4 rfl ?c2 ?c3 ?c4 ?_)
     case c1 => simp [Value.oneCell']
     case c2 => unfold maxLen; omega
     case c3 => omega
     case c4 => (have := HS14.out.bl.size; simp; omega)
     intro g3 c3 v3 hown hg hat
     have HT3 : Hid (KSt w v3 (.slice (some ⟨g3, 0, none⟩) 4 c3) 4 [⟨k4n0, w2.heap.size, k4f0⟩, ⟨k4n1, w5.heap.size, k4f1⟩, ⟨k4n2, w9.heap.size, k4f2⟩, ⟨k4n3, w14.heap.size, k4f3⟩]) := Lib.hid (HS14.out.push ⟨k4n3, w14.heap.size, k4f3⟩ rfl hown hg)
     clear hown hg hat HS14)
  go_ret
  have hcap : 4 ≤ c3 ∧ c3 ≤ 9223372036854775807 := by
    rcases HT3.out.own.2 with ⟨h', _⟩ | ⟨g', cap', cur, h', _, hg, h1, h2, _, _⟩
    · simp at h'
    · injection h' with _ _ h3
      subst h3
      exact ⟨h1, by unfold maxLen at h2; omega⟩
  refine ⟨_, c3, _, rfl, HT3.out.ks rfl hcap.1 hcap.2 ?_, rfl, HT3.out.bl⟩
  intro x hx
  simp only [List.mem_cons, List.not_mem_nil, or_false] at hx
  rcases hx with rfl | rfl | rfl | rfl
  · show k4f0.length ≤ 8; decide
  · show k4f1.length ≤ 8; decide
  · show k4f2.length ≤ 8; decide
  · show k4f3.length ≤ 8; decide
end Go.Proofs.Ytnidcmhfbkdioaa
