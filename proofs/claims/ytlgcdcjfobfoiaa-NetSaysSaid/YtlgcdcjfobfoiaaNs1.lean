/-
  The reference's network: the contracts of DeedFault and times; the fact 'arrives' of the second package. Conditions: what is read can be read, numbers of moderate size.
-/
import Derived.Test.YtlgcdcjfobfoiaaNt9
namespace Go.Proofs.Ytlgcdcjfobfoiaa
open Go.RowKit
set_option maxRecDepth 100000

structure Sn where
  st : Int
  fr : Int
  to : Int
  A : Option Addr
  n : Nat
  c : Nat
  dat : List Int
def Sn.cs (s : Sn) : List Value := [.int .i64 s.st, .int .i64 s.fr, .int .i64 s.to, .slice s.A s.n s.c]
def snCs (l : List Sn) : List Value := l.flatMap Sn.cs
theorem snCs_append (a b : List Sn) : snCs (a ++ b) = snCs a ++ snCs b := by simp [snCs, List.flatMap_append]
theorem snCs_cons (a : Sn) (b : List Sn) : snCs (a :: b) = a.cs ++ snCs b := by simp [snCs]
theorem snCs_get (l : List Sn) (k : Nat) (d : Sn) (h : l[k]? = some d) (j : Nat) (hj : j < 4) : (snCs l)[k * 4 + j]? = d.cs[j]? := by
  induction l generalizing k with
  | nil => simp at h
  | cons a l ih =>
    rw [snCs_cons]
    cases k with
    | zero =>
      simp at h; subst h
      rw [List.getElem?_append_left (by simp [Sn.cs]; omega)]; simp
    | succ k =>
      rw [List.getElem?_append_right (by simp [Sn.cs]; omega)]
      have := ih k (by simpa using h)
      rw [← this]; congr 1; simp [Sn.cs]; omega
theorem Rd.sn {w : World} {B n : Nat} {A : Option Addr} {l : List Sn} (h : Rd w B 4 A n (snCs l)) (k : Nat) (d : Sn) (hk : l[k]? = some d) (hn : k < n) :
    ∃ b o, A = some ⟨b, o, none⟩ ∧ b < B ∧ w.cell? ⟨b, o + k * 4, none⟩ = some (.int .i64 d.st) ∧ w.cell? ⟨b, o + k * 4 + 1, none⟩ = some (.int .i64 d.fr) ∧ w.cell? ⟨b, o + k * 4 + 2, none⟩ = some (.int .i64 d.to) ∧ w.cell? ⟨b, o + k * 4 + 3, none⟩ = some (.slice d.A d.n d.c) := by
  obtain ⟨b, o, hA, hb, hc⟩ := h.2 (by omega)
  refine ⟨b, o, hA, hb, ?_, ?_, ?_, ?_⟩
  · exact hc (k * 4) _ (snCs_get l k d hk 0 (by omega))
  · rw [Nat.add_assoc]; exact hc (k * 4 + 1) _ (snCs_get l k d hk 1 (by omega))
  · rw [Nat.add_assoc]; exact hc (k * 4 + 2) _ (snCs_get l k d hk 2 (by omega))
  · rw [Nat.add_assoc]; exact hc (k * 4 + 3) _ (snCs_get l k d hk 3 (by omega))

set_option maxHeartbeats 1600000 in
theorem deedFault_any (ends : Int) (A : Option Addr) (n c B : Nat) (ds : List Dd) (w : World) (hr : Rd w B 3 A n (ddCs ds)) (hn : n = ds.length) (hc : c ≤ maxLen ∧ n ≤ c) (hB : B ≤ w.heap.size) :
    Calls Try.prog 29 #[.int .i64 ends, .slice A n c] w fun e w' => e = .returned (.int .i64 (newErr ends ds)) ∧ Below w.heap.size w w' := by
  obtain ⟨hc', hnc⟩ := hc
  unfold maxLen at hc'
  by_cases h1 : ends < 1
  · have he : newErr ends ds = 1 := by simp [newErr, h1]
    have HE := Lib.hid he
    clear he hr
    go_enter Try.func29, Try.ntmps29
    go_wp2_with fail
    go_ret
    exact ⟨by rw [HE.out]; rfl, Below.refl _ _⟩
  by_cases h2 : 8 < ends
  · have he : newErr ends ds = 1 := by simp [newErr, h2]
    have HE := Lib.hid he
    clear he hr
    go_enter Try.func29, Try.ntmps29
    go_wp2_with fail
    go_ret
    exact ⟨by rw [HE.out]; rfl, Below.refl _ _⟩
  by_cases h3 : 1000 < n
  · have he : newErr ends ds = 2 := by simp [newErr, h1, h2, ← hn, h3]
    have HE := Lib.hid he
    clear he hr hn
    go_enter Try.func29, Try.ntmps29
    go_wp2_with fail
    go_ret
    exact ⟨by rw [HE.out]; rfl, Below.refl _ _⟩
  have hE : newErr ends ds = if ∃ d ∈ ds, d.bad then 1 else 0 := by
    unfold newErr
    rw [if_neg (by omega), if_neg (by omega)]
  have HE := Lib.hid hE
  have HN := Lib.hid hn
  have HR := Lib.hid hr
  clear hE hn hr
  go_enter Try.func29, Try.ntmps29
  go_wp2_with fail
  go_loopw [18] (fun i wr => ∃ k : Nat, k ≤ n ∧ i = .int .i64 k ∧ Hid (∀ d ∈ ds.take k, ¬ d.bad) ∧ Below w.heap.size w wr) (fun i _ => n - (intOf i).toNat)
  case atStart => exact ⟨0, Nat.zero_le _, rfl, Lib.hid (by simp), Below.refl _ _⟩
  case round =>
    obtain ⟨k, hk, rfl, HG, hb⟩ := hrel
    by_cases hlt : k < n
    · obtain ⟨d, hd⟩ : ∃ d, ds[k]? = some d := ⟨_, List.getElem?_eq_getElem (by have := HN.out; omega)⟩
      obtain ⟨b, o, rfl, hbB, q0, q1, q2⟩ := ((HR.out.below (hb.mono hB))).dd k d hd hlt
      have hcase : (¬ d.bad ∧ 0 ≤ d.kind ∧ d.kind ≤ 2 ∧ 0 ≤ d.pk ∧ d.pk ≤ 32767 ∧ 0 ≤ d.n ∧ d.n ≤ 50 ∧ (((d.kind == 0) = true ∧ d.n ≤ 0) ∨ (d.kind == 0) = false)) ∨
          newErr ends ds = 1 ∧ (d.kind < 0 ∨ (0 ≤ d.kind ∧ 2 < d.kind) ∨ (0 ≤ d.kind ∧ d.kind ≤ 2 ∧ d.pk < 0) ∨ (0 ≤ d.kind ∧ d.kind ≤ 2 ∧ 0 ≤ d.pk ∧ 32767 < d.pk) ∨ (0 ≤ d.kind ∧ d.kind ≤ 2 ∧ 0 ≤ d.pk ∧ d.pk ≤ 32767 ∧ d.n < 0) ∨ (0 ≤ d.kind ∧ d.kind ≤ 2 ∧ 0 ≤ d.pk ∧ d.pk ≤ 32767 ∧ 0 ≤ d.n ∧ 50 < d.n) ∨
          (0 ≤ d.kind ∧ d.kind ≤ 2 ∧ 0 ≤ d.pk ∧ d.pk ≤ 32767 ∧ 0 < d.n ∧ d.n ≤ 50 ∧ (d.kind == 0) = true)) := by
        by_cases h : d.bad
        · right
          refine ⟨by rw [HE.out, if_pos ⟨d, List.mem_of_getElem? hd, h⟩], ?_⟩
          unfold Dd.bad at h
          simp only [beq_iff_eq]
          omega
        · left
          refine ⟨h, ?_⟩
          unfold Dd.bad at h
          simp only [beq_iff_eq, beq_eq_false_iff_ne]
          omega
      have HD := Lib.hid hd
      clear hd
      rcases hcase with ⟨hgd, c1, c2, c3, c4, c5, c6, c7⟩ | ⟨he, hcase⟩
      · have HG2 : Hid (∀ x ∈ ds.take (k + 1), ¬ x.bad) := Lib.hid fun x hx => by
          rw [List.take_add_one, HD.out] at hx
          rcases List.mem_append.1 hx with hx | hx
          · exact HG.out x hx
          · simp at hx; subst hx; exact hgd
        clear hgd
        rcases c7 with ⟨c7, c8⟩ | c7
        all_goals
          go_wp2_with fail
          go_roundw
        case rel => exact ⟨k + 1, by omega, by go_num, HG2, hb.alloc hb.size _⟩
        case rel => exact ⟨k + 1, by omega, by go_num, HG2, hb.alloc hb.size _⟩
        all_goals simp [intOf]; omega
      · have HE1 := Lib.hid he
        clear he
        rcases hcase with c1 | ⟨c1, c2⟩ | ⟨c1, c2, c3⟩ | ⟨c1, c2, c3, c4⟩ | ⟨c1, c2, c3, c4, c5⟩ | ⟨c1, c2, c3, c4, c5, c6⟩ | ⟨c1, c2, c3, c4, c5, c6, c7⟩
        all_goals
          go_wp2_with fail
          go_ret
          exact ⟨by rw [HE1.out]; rfl, hb.alloc hb.size _⟩
    · obtain rfl : k = n := by omega
      have hE0 : newErr ends ds = 0 := by
        rw [HE.out, if_neg]
        rintro ⟨d, hd, hbd⟩
        refine HG.out d ?_ hbd
        rw [List.take_of_length_le (by have := HN.out; omega)]
        exact hd
      have HE0 := Lib.hid hE0
      clear hE0
      go_wp2_with fail
      go_ret
      exact ⟨by rw [HE0.out]; rfl, hb⟩

set_option maxHeartbeats 1600000 in
theorem arrives4_any (w : World) : Calls Try.prog 30 #[] w fun e w' => e = .returned (.bool true) ∧ Below w.heap.size w w' := by
  have hnew := netNew_any 2 none 0 0 w.heap.size [] w (Rd.nil_ _) rfl (Nat.le_refl _) (by unfold maxLen; omega) (Nat.le_refl _)
  have HNEW := Lib.hid hnew
  clear hnew
  go_enter Try.func30, Try.ntmps30
  go_wp2_with fail
  refine HNEW.out.mono ?_
  rintro e w1 ⟨hb1, ⟨h0, _⟩ | ⟨_, g, rfl, hN⟩⟩
  · exact absurd (show newErr 2 [] = 0 by simp [newErr]) h0
  have hN2 := hN.below ((Below.refl _ _).alloc (Nat.le_refl _) (.cells #[.int .u8 7] 5))
  have hb2 := hb1.alloc hb1.size (.cells #[.int .u8 7] 5)
  have hs := netSend_any w.heap.size g 2 0 0 0 1 (some ⟨w1.heap.size, 0, none⟩) 1 1 [7] [] [] _ hN2 (Nat.le_refl _) (by unfold maxLen; omega) (Tr.one5 w1 _) (by simp [sendErr]) (by omega) (by omega) (by omega) (by omega) (by simp) hb2.size
  have HS := Lib.hid hs
  clear hs hN
  go_wp2_with fail
  refine HS.out.mono ?_
  rintro e w3 ⟨rfl, fs, fl, hA, hk, hN3, hK3⟩
  obtain ⟨hl, hd⟩ := arrives_close hA hk
  have hst := netStep_any w.heap.size g 2 0 (0 + 1) [] fs w3 hN3 (by omega) (by omega) (by omega)
  have HST := Lib.hid hst
  have hle := netLeft_any w.heap.size g 2 0 (0 + 1) [] fs w3 hN3
  rw [hl] at hle
  have HLE := Lib.hid hle
  clear hst hA hk hle
  go_wp2_with fail
  refine HLE.out.mono ?_
  rintro e w4 ⟨rfl, rfl⟩
  go_wp2_with fail
  refine HST.out.mono ?_
  rintro e w4 ⟨l, rest, A4, c4, hf, _, hr, rfl, hown, hN4, hK4, _⟩
  obtain rfl := step_all hf hd hr
  have hl1 : l.length = 1 := by rw [hf] at hl; simpa using hl
  rw [hl1]
  clear hl hl1 hf hr hd HST HS HNEW hown hN4 hN3 HLE
  go_wp2_with fail
  go_ret
  exact ⟨rfl, hb2.trans ((hK3.trans hK4).below hb2.size)⟩

set_option maxHeartbeats 1600000 in
theorem times_any (DA SA : Option Addr) (n c m sc B i : Nat) (ds : List Dd) (l : List Sn) (s : Sn) (w : World) (hr : Rd w B 3 DA n (ddCs ds)) (hn : n = ds.length) (hn1 : n ≤ 1000) (hg : ∀ d ∈ ds, ¬ d.bad) (hs : Rd w B 4 SA m (snCs l)) (hi : i < m) (hm : m ≤ 1000000) (hl : l[i]? = some s)
    (ht0 : 0 ≤ s.st) (ht1 : s.st ≤ 1000000) (hB : B ≤ w.heap.size) :
    Calls Try.prog 70 #[.slice DA n c, .slice SA m sc, .int .i64 (i : Int)] w (RetS w 3 1 (timesOf ds i s.st).length ((timesOf ds i s.st).map (Value.int .i64))) := by
  obtain ⟨i3, hi3, hy0, hy1, hy2⟩ := info_parts T.info3
  obtain ⟨sb, so, rfl, _, q0, _, _, _⟩ := hs.sn i s hl hi
  generalize s.st = now at *
  have HR := Lib.hid hr
  have HN := Lib.hid hn
  have HGD := Lib.hid hg
  clear hr hn hg hs hl
  go_enter Try.func70, Try.ntmps70
  go_wp2_with fail
  go_loopw [7, 8, 9, 23] (fun due lost cop v wr => ∃ (k : Nat) (L : Int) (lo : Bool) (cp : List Int) (cn : Nat) (CA : Option Addr) (cc : Nat), k ≤ n ∧ v = .int .i64 k ∧ due = .int .i64 (now + 1 + L) ∧ lost = .bool lo ∧ cop = .slice CA cn cc ∧
      lateOf (ds.take k) i = L ∧ lostB (ds.take k) i = lo ∧ copOf (ds.take k) i = cp ∧ cn = cp.length ∧ wr.ownsRow w.heap.size 3 1 (.slice CA cn cc) cn (cp.map (Value.int .i64)) ∧ Below w.heap.size w wr) (fun _ _ _ v _ => n - (intOf v).toNat)
  case atStart => exact ⟨0, 0, false, [], 0, none, 0, Nat.zero_le _, rfl, by simp, rfl, rfl, by simp [lateOf], by simp [lostB], by simp [copOf], rfl, World.ownsRow_nil _ _ _ _, Below.refl _ _⟩
  case round =>
    obtain ⟨k, L, lo, cp, cn, CA, cc, hk, rfl, rfl, rfl, rfl, hL, hlo, hcp, hcn, hown, hb⟩ := hrel
    have hLb : 0 ≤ L ∧ L ≤ 50000 := by
      have := lateOf_bd (ds.take k) i fun d hd => HGD.out d (List.mem_of_mem_take hd)
      rw [hL] at this
      simp only [List.length_take] at this
      omega
    have hcl : cn ≤ k := by
      have := copOf_length (ds.take k) i
      rw [hcp, ← hcn] at this
      simp only [List.length_take] at this
      omega
    obtain ⟨hL0, hL1⟩ := hLb
    have HL := Lib.hid hL
    have HLO := Lib.hid hlo
    have HCP := Lib.hid hcp
    have HCN := Lib.hid hcn
    have hsz := hb.size
    clear hL hlo hcp hcn
    by_cases hlt : k < n
    · obtain ⟨d, hd⟩ : ∃ d, ds[k]? = some d := ⟨_, List.getElem?_eq_getElem (by have := HN.out; omega)⟩
      obtain ⟨b, o, rfl, hbB, q0, q1, q2⟩ := (HR.out.below (hb.mono hB)).dd k d hd hlt
      have hst := deed_step ds k d i hd
      rw [HL.out, HLO.out, HCP.out] at hst
      obtain ⟨p1, p2, p3, p4, p5, p6⟩ := good_n (HGD.out d (List.mem_of_getElem? hd))
      have hcase : ((d.pk != (i : Int)) = true ∧ (lateOf (ds.take (k + 1)) i = L ∧ lostB (ds.take (k + 1)) i = lo ∧ copOf (ds.take (k + 1)) i = cp)) ∨
          (((d.pk != (i : Int)) = false ∧ (d.kind == 0) = true) ∧ (lateOf (ds.take (k + 1)) i = L ∧ lostB (ds.take (k + 1)) i = true ∧ copOf (ds.take (k + 1)) i = cp)) ∨
          (((d.pk != (i : Int)) = false ∧ (d.kind == 0) = false ∧ (d.kind == 1) = true) ∧ (lateOf (ds.take (k + 1)) i = L + d.n ∧ lostB (ds.take (k + 1)) i = lo ∧ copOf (ds.take (k + 1)) i = cp)) ∨
          (((d.pk != (i : Int)) = false ∧ (d.kind == 0) = false ∧ (d.kind == 1) = false) ∧ (lateOf (ds.take (k + 1)) i = L ∧ lostB (ds.take (k + 1)) i = lo ∧ copOf (ds.take (k + 1)) i = cp ++ [d.n])) := by
        obtain ⟨e1, e2, e3⟩ := hst
        rw [e1, e2, e3]
        simp only [bne_iff_ne, bne_eq_false_iff_eq, beq_iff_eq, beq_eq_false_iff_ne]
        by_cases h1 : d.pk = i
        · have hk3 : d.kind = 0 ∨ d.kind = 1 ∨ d.kind = 2 := by omega
          rcases hk3 with h2 | h2 | h2
          · right; left; exact ⟨⟨h1, h2⟩, by simp [h1, h2]⟩
          · right; right; left; exact ⟨⟨h1, by omega, h2⟩, by simp [h1, h2]⟩
          · right; right; right; exact ⟨⟨h1, by omega, by omega⟩, by simp [h1, h2]⟩
        · left; exact ⟨h1, by simp [h1]⟩
      clear hst hd HL HLO HCP
      rcases hcase with ⟨t1, hst⟩ | ⟨⟨t1, t2⟩, hst⟩ | ⟨⟨t1, t2, t3⟩, hst⟩ | ⟨⟨t1, t2, t3⟩, hst⟩
      · have HS := Lib.hid hst
        clear hst
        go_wp2_with fail
        go_roundw
        case rel => exact ⟨k + 1, L, lo, cp, cn, CA, cc, by omega, by go_num, rfl, rfl, rfl, HS.out.1, HS.out.2.1, HS.out.2.2, HCN.out, hown.alloc _, hb.alloc hsz _⟩
        case measure => simp [intOf]; omega
      · have HS := Lib.hid hst
        clear hst
        go_wp2_with fail
        go_roundw
        case rel => exact ⟨k + 1, L, true, cp, cn, CA, cc, by omega, by go_num, rfl, rfl, rfl, HS.out.1, HS.out.2.1, HS.out.2.2, HCN.out, hown.alloc _, hb.alloc hsz _⟩
        case measure => simp [intOf]; omega
      · have HS := Lib.hid hst
        clear hst
        go_wp2_with fail
        go_roundw
        case rel => exact ⟨k + 1, L + d.n, lo, cp, cn, CA, cc, by omega, by go_num, by go_num, rfl, rfl, HS.out.1, HS.out.2.1, HS.out.2.2, HCN.out, hown.alloc _, hb.alloc hsz _⟩
        case measure => simp [intOf]; omega
      · have HS := Lib.hid hst
        clear hst
        have hownA : (wr.alloc (.cells #[.int .i64 d.kind, .int .i64 d.pk, .int .i64 d.n] 47)).ownsRow w.heap.size 3 1 (.slice CA cn cc) cn (cp.map (Value.int .i64)) := hown.alloc _
        have hbA := hb.alloc hsz (.cells #[.int .i64 d.kind, .int .i64 d.pk, .int .i64 d.n] 47)
        have hszA := hbA.size
        go_wp2_with
          (at_builtin
           go_must (refine wpList_append_one _ rfl (.tmp 27) (.tmp 30) _ rfl w.heap.size 3 i3 (.int .i64 0) 1 8 Try.underlying41 hi3 hy0 hy1 hy2 rfl (by decide) (.slice CA cn cc) cn (cp.map (Value.int .i64)) rfl (hownA.alloc _) (wr.heap.size + 1) 1 3 #[.int .i64 d.n] rfl ?c0 rfl ?c1 (cn + 1) rfl ?c2 ?c3 ?c4 ?_)
           case c0 => simpa using Bk.new (wr.alloc (.cells #[.int .i64 d.kind, .int .i64 d.pk, .int .i64 d.n] 47)) 3 #[.int .i64 d.n]
           case c1 => simp [Value.oneCell']
           case c2 => unfold maxLen; omega
           case c3 => omega
           case c4 => simp at hszA; simp; omega
           intro g5 cc5 w5 hown5 hg5 hat5
           have HO5 := Lib.hid hown5
           have hb5 := (hbA.alloc (by omega) (.cells #[.int .i64 d.n] 3)).grown hg5 (by simp at hszA; simp; omega) (fun q hq => (hown.lt q hq).1)
           clear hown5 hg5 hat5)
        go_roundw
        case rel => exact ⟨k + 1, L, lo, cp ++ [d.n], cn + 1, some ⟨g5, 0, none⟩, cc5, by omega, by go_num, rfl, rfl, rfl, HS.out.1, HS.out.2.1, HS.out.2.2, by have := HCN.out; simp; omega, by have := HO5.out; simpa using this, hb5⟩
        case measure => simp [intOf]; omega
    · obtain rfl : k = n := by omega
      have htk : ds.take k = ds := List.take_of_length_le (by have := HN.out; omega)
      have hls : lateOf ds i = L ∧ lostB ds i = lo ∧ copOf ds i = cp := by
        have h1 := HL.out
        have h2 := HLO.out
        have h3 := HCP.out
        rw [htk] at h1 h2 h3
        exact ⟨h1, h2, h3⟩
      have htimes : timesOf ds i now = if lo then [] else (now + 1 + L) :: cp.map fun c => now + 1 + L + c := by
        unfold timesOf
        rw [hls.1, hls.2.1, hls.2.2]
      have hcb : ∀ c ∈ cp, 0 ≤ c ∧ c ≤ 50 := by
        have := copOf_bd ds i HGD.out
        rw [hls.2.2] at this
        exact this
      have HT := Lib.hid htimes
      have HCB := Lib.hid hcb
      clear htk hls HL HLO HCP htimes hcb
      cases lo
      rotate_left
      · go_wp2_with fail
        go_ret
        rw [HT.out]
        exact ⟨none, 0, rfl, World.ownsRow_nil _ _ _ _, hb⟩
      · obtain ⟨wm, hwm⟩ : ∃ wm, wm = wr.alloc (.cells #[.int .i64 (now + 1 + L)] 3) := ⟨_, rfl⟩
        have hcr : Rd wm wr.heap.size 1 CA cn (cp.map (Value.int .i64)) := by rw [hwm]; exact (Rd.of_own hown).below ((Below.refl _ _).alloc (Nat.le_refl _) _)
        have hoo : wm.ownsRow wr.heap.size 3 1 (.slice (some ⟨wr.heap.size, 0, none⟩) 1 1) 1 ([now + 1 + L].map (Value.int .i64)) := by rw [hwm]; exact World.ownsRow_lit wr #[.int .i64 (now + 1 + L)] 1 (Nat.le_refl _) (by decide) rfl
        have hbm : Below w.heap.size w wm := by rw [hwm]; exact hb.alloc hsz _
        have hszm : wr.heap.size ≤ wm.heap.size := by rw [hwm]; simp
        have HWM := Lib.hid hwm
        clear hwm hown hb
        go_wp2_with fail
        rw [← HWM.out]
        generalize wr.heap.size = B0 at *
        go_loopw [12, 55] (fun out v wx => ∃ (j : Nat) (OA : Option Addr) (oc : Nat), j ≤ cn ∧ v = .int .i64 j ∧ out = .slice OA (j + 1) oc ∧ wx.ownsRow B0 3 1 (.slice OA (j + 1) oc) (j + 1) (((now + 1 + L) :: (cp.take j).map fun c => now + 1 + L + c).map (Value.int .i64)) ∧ Below B0 wm wx) (fun _ v _ => cn - (intOf v).toNat)
        case atStart => exact ⟨0, some ⟨B0, 0, none⟩, 1, Nat.zero_le _, rfl, rfl, by simpa using hoo, Below.refl _ _⟩
        case round =>
          obtain ⟨j, OA, oc, hj, rfl, rfl, hown, hb⟩ := hrel
          have hszx := hb.size
          by_cases hjl : j < cn
          · obtain ⟨x, hx⟩ : ∃ x, cp[j]? = some x := ⟨_, List.getElem?_eq_getElem (by have := HCN.out; omega)⟩
            obtain ⟨hx0, hx1⟩ := HCB.out x (List.mem_of_getElem? hx)
            obtain ⟨cb, co, rfl, _, hcx⟩ := (hcr.below hb).at1 hjl (u := .int .i64 x) (by rw [List.getElem?_map, hx]; rfl)
            have HX := Lib.hid hx
            clear hx hoo
            go_wp2_with
              (at_builtin
               go_must (refine wpList_append_one _ rfl (.tmp 59) (.tmp 63) _ rfl B0 3 i3 (.int .i64 0) 1 8 Try.underlying41 hi3 hy0 hy1 hy2 rfl (by decide) (.slice OA (j + 1) oc) (j + 1) _ rfl (hown.alloc _) wr.heap.size 1 3 #[.int .i64 (now + 1 + L + x)] rfl (Bk.new _ _ _) rfl ?c1 (j + 1 + 1) rfl ?c2 ?c3 ?c4 ?_)
               case c1 => simp [Value.oneCell']
               case c2 => unfold maxLen; omega
               case c3 => omega
               case c4 => simp; omega
               intro g5 cc5 w5 hown5 hg5 hat5
               have HO5 := Lib.hid hown5
               have hb5 := (hb.alloc (by omega) (.cells #[.int .i64 (now + 1 + L + x)] 3)).grown hg5 (by simp; omega) (fun q hq => (hown.lt q hq).1)
               clear hown5 hg5 hat5)
            go_roundw
            case rel => exact ⟨j + 1, some ⟨g5, 0, none⟩, cc5, by omega, by go_num, rfl, by have := HO5.out; rw [List.take_add_one, HX.out]; simpa using this, hb5⟩
            case measure => simp [intOf]; omega
          · obtain rfl : j = cn := by omega
            go_wp2_with fail
            go_ret
            rw [HT.out]
            have h1 : ((now + 1 + L) :: cp.map fun c => now + 1 + L + c).length = j + 1 := by have := HCN.out; simp; omega
            rw [List.take_of_length_le (by have := HCN.out; omega)] at hown
            simp only [Bool.false_eq_true, if_false]
            rw [h1]
            exact ⟨OA, oc, rfl, own_mono hown hsz, hbm.trans (hb.mono hsz)⟩

end Go.Proofs.Ytlgcdcjfobfoiaa
