/-
  The contract of Send where the packet is taken. Conditions: a network in memory, numbers of moderate size.
-/
import Derived.Test.YtlgcdcjfobfoiaaNt5
namespace Go.Proofs.Ytlgcdcjfobfoiaa
open Go.RowKit
set_option maxRecDepth 100000

theorem Tr.below {w w' : World} {e : TypeId} {size n : Nat} {A : Option Addr} {xs : List Value} (h : Tr w e size A n xs) (hb : Below w.heap.size w w') : Tr w' e size A n xs := by
  refine ⟨h.1, fun hn => ?_⟩
  obtain ⟨b, o, cs, hA, hk, hc⟩ := h.2 hn
  exact ⟨b, o, cs, hA, hk.below hb hk.lt, hc⟩
theorem Sh.below {w w' : World} {base n c size : Nat} {e : TypeId} {A : Option Addr} {xs : List Value} (h : Sh w base e size A n c xs) (hb : Below w.heap.size w w') : Sh w' base e size A n c xs :=
  h.keep fun _ _ _ hk => hk.below hb hk.lt
theorem NetSt.below {w w' : World} {base g : Nat} {ends now sent : Int} {ds : List Dd} {fs : List Fl} (h : NetSt w base g ends now sent ds fs) (hb : Below w.heap.size w w') : NetSt w' base g ends now sent ds fs := by
  obtain ⟨DA, dc, AA, ac, h1, h2, h3, h4, h5⟩ := h.st
  exact ⟨⟨DA, dc, AA, ac, h1.below hb h1.lt, h2, h3, h4.below hb, h5.below hb⟩, h.base, h.good, h.few, fun f hf => ⟨(h.data f hf).1.below hb, (h.data f hf).2⟩⟩
theorem NetSt.lt {w : World} {base g : Nat} {ends now sent : Int} {ds : List Dd} {fs : List Fl} (h : NetSt w base g ends now sent ds fs) : g < w.heap.size := by
  obtain ⟨_, _, _, _, hbk, _⟩ := h.st
  exact hbk.lt
/-- A store into the network's own field. -/
theorem NetSt.set_ {w : World} {base g : Nat} {ends now sent ends' now' sent' : Int} {ds : List Dd} {fs : List Fl} (h : NetSt w base g ends now sent ds fs) (i : Nat) (u : Value)
    (hcs : ∀ d a : Value, (#[Value.int .i64 ends, d, Value.int .i64 now, Value.int .i64 sent, a] : Array Value).setIfInBounds i u = #[Value.int .i64 ends', d, Value.int .i64 now', Value.int .i64 sent', a]) : NetSt (w.setCell ⟨g, i, none⟩ u) base g ends' now' sent' ds fs := by
  obtain ⟨DA, dc, AA, ac, h1, h2, h3, h4, h5⟩ := h.st
  have hfar : ∀ {k : Nat} {t : TypeId} {cs : Array Value}, Bk w k t cs → t ≠ 110 → Bk (w.setCell ⟨g, i, none⟩ u) k t cs := fun hk ht => hk.far (Bk.ne_ hk h1 ht) u
  have hTr : ∀ {e : TypeId} {size n : Nat} {A : Option Addr} {xs : List Value}, Tr w e size A n xs → e ≠ 110 → Tr (w.setCell ⟨g, i, none⟩ u) e size A n xs := fun hh he => ⟨hh.1, fun hn => by
    obtain ⟨b, o, cs, hA, hk, hc⟩ := hh.2 hn
    exact ⟨b, o, cs, hA, hfar hk he, hc⟩⟩
  refine ⟨⟨DA, dc, AA, ac, ?_, h2, h3, hTr h4 (by decide), h5.keep fun _ _ _ hk => hfar hk (by decide)⟩, h.base, h.good, h.few, fun f hf => ⟨hTr (h.data f hf).1 (by decide), (h.data f hf).2⟩⟩
  have := h1.set_ i u
  rw [hcs] at this
  exact this
theorem NetSt.kset {w : World} {base g : Nat} {ends now sent : Int} {ds : List Dd} {fs : List Fl} (h : NetSt w base g ends now sent ds fs) (i : Nat) (u : Value) : Kq base w (w.setCell ⟨g, i, none⟩ u) := by
  obtain ⟨DA, dc, AA, ac, h1, _⟩ := h.st
  exact Kq.refl.setG h.base h1 (.inl rfl) i u

/-- fly at a network. -/
theorem fly_st (base g : Nat) (ends now sent : Int) (ds : List Dd) (fs : List Fl) (f : Fl) (w : World) (h : NetSt w base g ends now sent ds fs) (hn : fs.length ≤ 1000000) (hf : Tr w 5 1 f.A f.n (f.dat.map (Value.int .u8)) ∧ f.n ≤ f.c ∧ f.c ≤ maxLen) :
    Calls Try.prog 68 #[.pointer (some ⟨g, 0, none⟩), .int .i64 f.due, .int .i64 f.num, .agg #[.int .i64 f.fr, .int .i64 f.to, .slice f.A f.n f.c]] w fun e w' => e = .returned (.tuple #[]) ∧ ∃ fs', Adds [f] fs fs' ∧ NetSt w' base g ends now sent ds fs' ∧ Kq base w w' := by
  obtain ⟨DA, dc, AA, ac, h1, h2, h3, h4, h5⟩ := h.st
  refine (fly_any base g _ _ _ _ f fs AA ac w h1 h5 h.base hn).mono fun e w' ⟨he, i, A', c', hi, ha, hb, hbk, hsh, hk⟩ => ?_
  have hl : (fs.take i ++ f :: fs.drop i).length = fs.length + 1 := by simp; omega
  refine ⟨he, _, adds_one f fs i hi ha hb, ⟨⟨DA, dc, A', c', by rw [hl]; exact hbk, h2, h3, h4.kq hk (by decide) (by decide), by rw [hl]; exact hsh⟩, h.base, h.good, h.few, fun x hx => ?_⟩, hk⟩
  have hx' : x = f ∨ x ∈ fs := by
    rcases List.mem_append.1 hx with hx | hx
    · exact .inr (List.mem_of_mem_take hx)
    · rcases List.mem_cons.1 hx with rfl | hx
      · exact .inl rfl
      · exact .inr (List.mem_of_mem_drop hx)
  rcases hx' with rfl | hx'
  · exact ⟨hf.1.kq hk (by decide) (by decide), hf.2⟩
  · exact ⟨(h.data x hx').1.kq hk (by decide) (by decide), (h.data x hx').2⟩

theorem own_cap {w : World} {base size n c : Nat} {e : TypeId} {A : Option Addr} {xs : List Value} (h : w.ownsRow base e size (.slice A n c) n xs) : n ≤ c ∧ c ≤ maxLen := by
  rcases h.2 with ⟨hv, h0⟩ | ⟨g', cap, cur, hv, _, _, h1, h2, _⟩
  · injection hv with _ h2 h3; subst h3; exact ⟨by omega, Nat.zero_le _⟩
  · injection hv with _ _ h3; subst h3; exact ⟨h1, h2⟩
theorem ints_one (k : IntKind) (l : List Int) : ∀ u ∈ l.map (Value.int k), u.oneCell' = true := by
  intro u hu
  obtain ⟨x, _, rfl⟩ := List.mem_map.1 hu
  rfl

/-- What one deed more makes of the three numbers. -/
theorem deed_step (ds : List Dd) (k : Nat) (d : Dd) (i : Int) (hd : ds[k]? = some d) :
    lateOf (ds.take (k + 1)) i = lateOf (ds.take k) i + (if d.pk = i ∧ d.kind = 1 then d.n else 0) ∧ lostB (ds.take (k + 1)) i = (lostB (ds.take k) i || decide (d.pk = i ∧ d.kind = 0)) ∧
      copOf (ds.take (k + 1)) i = copOf (ds.take k) i ++ (if d.pk = i ∧ d.kind = 2 then [d.n] else []) := by
  have htk : ds.take (k + 1) = ds.take k ++ [d] := by rw [List.take_add_one, hd]; rfl
  rw [htk, lateOf_append, lostB_append, copOf_append]
  refine ⟨?_, ?_, ?_⟩
  · congr 1
    unfold lateOf
    by_cases h1 : d.pk = i <;> by_cases h2 : d.kind = 1 <;> simp [h1, h2]
  · congr 1
    unfold lostB
    by_cases h1 : d.pk = i <;> by_cases h2 : d.kind = 0 <;> simp [h1, h2]
  · congr 1
    unfold copOf
    by_cases h1 : d.pk = i <;> by_cases h2 : d.kind = 2 <;> simp [h1, h2]

set_option maxHeartbeats 1600000 in
theorem netSend_any (base g : Nat) (ends now sent fr to : Int) (A : Option Addr) (n c : Nat) (dat : List Int) (ds : List Dd) (fs : List Fl) (w : World) (h : NetSt w base g ends now sent ds fs) (hn : n ≤ c) (hc : c ≤ maxLen)
    (hd : Tr w 5 1 A n (dat.map (Value.int .u8))) (hgood : sendErr ends sent fr to n = 0) (hs0 : 0 ≤ sent) (hs1 : sent ≤ 32768) (ht0 : 0 ≤ now) (ht1 : now ≤ 1000000) (hfs : fs.length ≤ 900000) (hbw : base ≤ w.heap.size) :
    Calls Try.prog 25 #[.pointer (some ⟨g, 0, none⟩), .int .i64 fr, .int .i64 to, .slice A n c] w fun e w' => e = .returned (.int .i64 0) ∧ SendPost base g ends now sent fr to dat ds fs w w' := by
  have hk : 0 ≤ fr ∧ fr < ends ∧ 0 ≤ to ∧ to < ends ∧ (fr == to) = false ∧ n ≤ 4000 ∧ (sent == 32768) = false ∧ sent < 32768 := by
    unfold sendErr at hgood
    simp only [beq_eq_false_iff_ne]
    split at hgood
    · simp at hgood
    · split at hgood
      · simp at hgood
      · split at hgood
        · simp at hgood
        · omega
  obtain ⟨k1, k2, k3, k4, k5, k6, k7, k8⟩ := hk
  clear hgood hs1
  have hN := h.set_ (ends' := ends) (now' := now) (sent' := sent + 1) 3 (.int .i64 (sent + 1)) (fun _ _ => rfl)
  have hK := h.kset 3 (.int .i64 (sent + 1))
  have hd1 : Tr (w.setCell ⟨g, 3, none⟩ (.int .i64 (sent + 1))) 5 1 A n (dat.map (Value.int .u8)) := hd.kq hK (by decide) (by decide)
  have hcs := hc
  unfold maxLen at hcs
  obtain ⟨DA, dc, AA, ac, hbk, hdc, hdm, hdt, _⟩ := h.st
  have c0 : w.cell? ⟨g, 0, none⟩ = some (.int .i64 ends) := hbk.cell 0
  have c3 : w.cell? ⟨g, 3, none⟩ = some (.int .i64 sent) := hbk.cell 3
  have f3 := hbk.frozen 3
  have q1 : w.cell? ⟨g, 1, none⟩ = some (.slice DA ds.length dc) := hbk.cell 1
  have q2 : w.cell? ⟨g, 2, none⟩ = some (.int .i64 now) := hbk.cell 2
  obtain ⟨w1, hw1⟩ : ∃ w1, w1 = w.setCell ⟨g, 3, none⟩ (.int .i64 (sent + 1)) := ⟨_, rfl⟩
  have hz1 : w1.heap.size = w.heap.size := by rw [hw1]; simp [World.setCell]
  have hbk1 : Bk w1 g 110 #[.int .i64 ends, .slice DA ds.length dc, .int .i64 now, .int .i64 (sent + 1), .slice AA fs.length ac] := by rw [hw1]; exact hbk.set_ 3 (.int .i64 (sent + 1))
  have c1 : w1.cell? ⟨g, 1, none⟩ = some (.slice DA ds.length dc) := hbk1.cell 1
  have c2 : w1.cell? ⟨g, 2, none⟩ = some (.int .i64 now) := hbk1.cell 2
  have hdt1 : Tr w1 47 3 DA ds.length (ddCs ds) := by rw [hw1]; exact hdt.kq hK (by decide) (by decide)
  obtain ⟨m, hm⟩ : ∃ m, m = ds.length := ⟨_, rfl⟩
  have hm1 : m ≤ 1000 := by rw [hm]; exact h.few
  have hgd := h.good
  rw [← hm] at c1 q1 hdt1
  have HW1 := Lib.hid hw1
  have HM := Lib.hid hm
  have HGD := Lib.hid hgd
  have HZ1 := Lib.hid hz1
  rw [← hw1] at hN hK hd1
  clear hm hgd hbk hdt hbk1 hz1 h hd hc hw1
  have hsw : IntKind.i64.wrap (sent + 1) = sent + 1 := IntWalk.i64_in _ ⟨by omega, by omega⟩
  obtain ⟨i3, hi3, hy0, hy1, hy2⟩ := info_parts T.info3
  go_enter Try.func25, Try.ntmps25
  go_wp2_with fail
  rw [← HW1.out]
  clear c0 c3 f3 q1 q2
  have hzle : w.heap.size ≤ w1.heap.size := by have := HZ1.out; omega
  go_loopw [10, 11, 12, 73] (fun due lost cop i wr => ∃ (k : Nat) (L : Int) (lo : Bool) (cp : List Int) (cn : Nat) (CA : Option Addr) (cc : Nat), k ≤ m ∧ i = .int .i64 k ∧ due = .int .i64 (now + 1 + L) ∧ lost = .bool lo ∧ cop = .slice CA cn cc ∧
      lateOf (ds.take k) sent = L ∧ lostB (ds.take k) sent = lo ∧ copOf (ds.take k) sent = cp ∧ cn = cp.length ∧ wr.ownsRow w.heap.size 3 1 (.slice CA cn cc) cn (cp.map (Value.int .i64)) ∧ Below w.heap.size w1 wr) (fun _ _ _ i _ => m - (intOf i).toNat)
  case atStart => exact ⟨0, 0, false, [], 0, none, 0, Nat.zero_le _, rfl, by simp, rfl, rfl, by simp [lateOf], by simp [lostB], by simp [copOf], rfl, World.ownsRow_nil _ _ _ _, Below.refl _ _⟩
  case round =>
    obtain ⟨k, L, lo, cp, cn, CA, cc, hk, rfl, rfl, rfl, rfl, hL, hlo, hcp, hcn, hown, hb⟩ := hrel
    have hLb : 0 ≤ L ∧ L ≤ 50000 := by
      have := lateOf_bd (ds.take k) sent fun d hd => HGD.out d (List.mem_of_mem_take hd)
      rw [hL] at this
      simp only [List.length_take] at this
      have := HM.out
      omega
    have hcl : cn ≤ k := by
      have := copOf_length (ds.take k) sent
      rw [hcp, ← hcn] at this
      simp only [List.length_take] at this
      omega
    obtain ⟨hL0, hL1⟩ := hLb
    have HL := Lib.hid hL
    have HLO := Lib.hid hlo
    have HCP := Lib.hid hcp
    have HCN := Lib.hid hcn
    clear hL hlo hcp hcn
    by_cases hlt : k < m
    · obtain ⟨d, hd⟩ : ∃ d, ds[k]? = some d := ⟨_, List.getElem?_eq_getElem (by have := HM.out; omega)⟩
      obtain ⟨b, o, rfl, hbB, q0, q1, q2⟩ := ((hdt1.rd).below (hb.mono (by have := HZ1.out; omega))).dd k d hd hlt
      have hst := deed_step ds k d sent hd
      rw [HL.out, HLO.out, HCP.out] at hst
      obtain ⟨p1, p2, p3, p4, p5, p6⟩ := good_n (HGD.out d (List.mem_of_getElem? hd))
      have hcase : ((d.pk != sent) = true ∧ (lateOf (ds.take (k + 1)) sent = L ∧ lostB (ds.take (k + 1)) sent = lo ∧ copOf (ds.take (k + 1)) sent = cp)) ∨
          (((d.pk != sent) = false ∧ (d.kind == 0) = true) ∧ (lateOf (ds.take (k + 1)) sent = L ∧ lostB (ds.take (k + 1)) sent = true ∧ copOf (ds.take (k + 1)) sent = cp)) ∨
          (((d.pk != sent) = false ∧ (d.kind == 0) = false ∧ (d.kind == 1) = true) ∧ (lateOf (ds.take (k + 1)) sent = L + d.n ∧ lostB (ds.take (k + 1)) sent = lo ∧ copOf (ds.take (k + 1)) sent = cp)) ∨
          (((d.pk != sent) = false ∧ (d.kind == 0) = false ∧ (d.kind == 1) = false ∧ (d.kind == 2) = true) ∧ (lateOf (ds.take (k + 1)) sent = L ∧ lostB (ds.take (k + 1)) sent = lo ∧ copOf (ds.take (k + 1)) sent = cp ++ [d.n])) := by
        obtain ⟨e1, e2, e3⟩ := hst
        rw [e1, e2, e3]
        simp only [bne_iff_ne, bne_eq_false_iff_eq, beq_iff_eq, beq_eq_false_iff_ne]
        by_cases h1 : d.pk = sent
        · have hk3 : d.kind = 0 ∨ d.kind = 1 ∨ d.kind = 2 := by omega
          rcases hk3 with h2 | h2 | h2
          · right; left; exact ⟨⟨h1, h2⟩, by simp [h1, h2]⟩
          · right; right; left; exact ⟨⟨h1, by omega, h2⟩, by simp [h1, h2]⟩
          · right; right; right; exact ⟨⟨h1, by omega, by omega, h2⟩, by simp [h1, h2]⟩
        · left; exact ⟨h1, by simp [h1]⟩
      clear hst hd HL HLO HCP
      rcases hcase with ⟨t1, hst⟩ | ⟨⟨t1, t2⟩, hst⟩ | ⟨⟨t1, t2, t3⟩, hst⟩ | ⟨⟨t1, t2, t3, t4⟩, hst⟩
      · have HS := Lib.hid hst
        clear hst
        go_wp2_with fail
        go_roundw
        case rel => exact ⟨k + 1, L, lo, cp, cn, CA, cc, by omega, by go_num, rfl, rfl, rfl, HS.out.1, HS.out.2.1, HS.out.2.2, HCN.out, hown.alloc _, hb.alloc (by have := hb.size; omega) _⟩
        case measure => simp [intOf]; omega
      · have HS := Lib.hid hst
        clear hst
        go_wp2_with fail
        go_roundw
        case rel => exact ⟨k + 1, L, true, cp, cn, CA, cc, by omega, by go_num, rfl, rfl, rfl, HS.out.1, HS.out.2.1, HS.out.2.2, HCN.out, hown.alloc _, hb.alloc (by have := hb.size; omega) _⟩
        case measure => simp [intOf]; omega
      · have HS := Lib.hid hst
        clear hst
        go_wp2_with fail
        go_roundw
        case rel => exact ⟨k + 1, L + d.n, lo, cp, cn, CA, cc, by omega, by go_num, by go_num, rfl, rfl, HS.out.1, HS.out.2.1, HS.out.2.2, HCN.out, hown.alloc _, hb.alloc (by have := hb.size; omega) _⟩
        case measure => simp [intOf]; omega
      · have HS := Lib.hid hst
        clear hst
        have hownA : (wr.alloc (.cells #[.int .i64 d.kind, .int .i64 d.pk, .int .i64 d.n] 47)).ownsRow w.heap.size 3 1 (.slice CA cn cc) cn (cp.map (Value.int .i64)) := hown.alloc _
        have hbA := hb.alloc (by have := hb.size; omega) (.cells #[.int .i64 d.kind, .int .i64 d.pk, .int .i64 d.n] 47)
        have hszA := hbA.size
        go_wp2_with
          (at_builtin
           go_must (refine wpList_append_one _ rfl (.tmp 93) (.tmp 96) _ rfl w.heap.size 3 i3 (.int .i64 0) 1 8 Try.underlying41 hi3 hy0 hy1 hy2 rfl (by decide) (.slice CA cn cc) cn (cp.map (Value.int .i64)) rfl (hownA.alloc _) (wr.heap.size + 1) 1 3 #[.int .i64 d.n] rfl ?c0 rfl ?c1 (cn + 1) rfl ?c2 ?c3 ?c4 ?_)
           case c0 => simpa using Bk.new (wr.alloc (.cells #[.int .i64 d.kind, .int .i64 d.pk, .int .i64 d.n] 47)) 3 #[.int .i64 d.n]
           case c1 => simp [Value.oneCell']
           case c2 => unfold maxLen; omega
           case c3 => omega
           case c4 => simp at hszA; simp; omega
           intro g5 cc5 w5 hown5 hg5 hat5
           have HO5 := Lib.hid hown5
           have hb5 := (hbA.alloc (by omega) (.cells #[.int .i64 d.n] 3)).grown hg5 (by simp at hszA; simp; omega) (fun q hq => (hown.lt q hq).1)
           clear hown5 hg5 hat5)
        go_roundw
        case rel => exact ⟨k + 1, L, lo, cp ++ [d.n], cn + 1, some ⟨g5, 0, none⟩, cc5, by omega, by go_num, rfl, rfl, rfl, HS.out.1, HS.out.2.1, HS.out.2.2, by have := HCN.out; simp; omega, by have := HO5.out; simpa using this, hb5⟩
        case measure => simp [intOf]; omega
    · obtain rfl : k = m := by omega
      have htk : ds.take k = ds := List.take_of_length_le (by have := HM.out; omega)
      have hls : lateOf ds sent = L ∧ lostB ds sent = lo ∧ copOf ds sent = cp := by
        have h1 := HL.out
        have h2 := HLO.out
        have h3 := HCP.out
        rw [htk] at h1 h2 h3
        exact ⟨h1, h2, h3⟩
      have HLS := Lib.hid hls
      have hNr : NetSt wr base g ends now (sent + 1) ds fs := hN.below (hb.mono (by have := HZ1.out; omega))
      have hKr : Kq base w wr := hK.trans (Kq.of_below hb (by have := HZ1.out; omega))
      have hdr : Tr wr 5 1 A n (dat.map (Value.int .u8)) := hd1.below (hb.mono (by have := HZ1.out; omega))
      have hcT : Tr wr 3 1 CA cn (cp.map (Value.int .i64)) := Tr.of_own hown
      clear htk hls HL HLO HCP
      cases lo
      rotate_left
      · go_wp2_with fail
        go_ret
        exact ⟨rfl, fs, [], Adds.nil fs, by simp [timesOf, HLS.out.2.1], hNr, hKr⟩
      · have htimes : timesOf ds sent now = (now + 1 + L) :: cp.map fun c => now + 1 + L + c := by
          unfold timesOf
          rw [HLS.out.1, HLS.out.2.1, HLS.out.2.2]
          rfl
        have hcb : ∀ c ∈ cp, 0 ≤ c ∧ c ≤ 50 := by
          have := copOf_bd ds sent HGD.out
          rw [HLS.out.2.2] at this
          exact this
        have HT := Lib.hid htimes
        have HCB := Lib.hid hcb
        clear htimes hcb hown hd1 hN hK hb c1 c2 hdt1
        go_wp2_with fail
        refine (bytesClone_any A n c wr.heap.size (dat.map (Value.int .u8)) wr hdr.rd (ints_one _ _) (Nat.le_refl _) (by omega)).mono ?_
        rintro e w2 ⟨A2, cc2, rfl, hown2, hb2⟩
        have hN2 := hNr.below hb2
        have hK2 := hKr.trans (Kq.of_below hb2 (Nat.le_refl _))
        have hd2 := hdr.below hb2
        have hc2 := hcT.below hb2
        have hT2 : Tr w2 5 1 A2 n (dat.map (Value.int .u8)) := Tr.of_own hown2
        have hcap2 := own_cap hown2
        clear hNr hKr hdr hcT hown2 hb2
        go_wp2_with fail
        refine (fly_st base g ends now (sent + 1) ds fs ⟨now + 1 + L, sent, fr, to, A2, n, cc2, dat⟩ w2 hN2 (by omega) ⟨hT2, hcap2⟩).mono ?_
        rintro e w3 ⟨rfl, fs3, hA3, hN3, hK3⟩
        have hKK3 := hK2.trans hK3
        have hd3 := hd2.kq hK3 (by decide) (by decide)
        have hc3 := hc2.kq hK3 (by decide) (by decide)
        clear hN2 hK2 hd2 hc2 hT2 hcap2 hK3
        have HA3 := Lib.hid hA3
        clear hA3
        go_wp2_with fail
        go_loopw [111] (fun i wx => ∃ (j : Nat) (fs1 fl1 : List Fl), j ≤ cn ∧ i = .int .i64 j ∧ Adds fl1 fs fs1 ∧ Hid (fl1.map Fl.key = ((now + 1 + L) :: (cp.take j).map fun c => now + 1 + L + c).map (fun t => (t, sent, fr, to, dat))) ∧ fs1.length ≤ fs.length + 1 + j ∧
            NetSt wx base g ends now (sent + 1) ds fs1 ∧ Kq base w wx ∧ Tr wx 3 1 CA cn (cp.map (Value.int .i64)) ∧ Tr wx 5 1 A n (dat.map (Value.int .u8))) (fun i _ => cn - (intOf i).toNat)
        case atStart =>
          refine ⟨0, fs3, [⟨now + 1 + L, sent, fr, to, A2, n, cc2, dat⟩], Nat.zero_le _, rfl, HA3.out, Lib.hid (by simp [Fl.key]), ?_, hN3, hKK3, hc3, hd3⟩
          have := HA3.out.2.1
          simp at this; omega
        case round =>
          obtain ⟨j, fs1, fl1, hj, rfl, hA1, HK1, hlen, hN1, hK1, hc1, hdd1⟩ := hrel
          have HA1 := Lib.hid hA1
          clear hA1 hN3 hKK3 hc3 hd3
          by_cases hlt : j < cn
          · obtain ⟨x, hx⟩ : ∃ x, cp[j]? = some x := ⟨_, List.getElem?_eq_getElem (by have := HCN.out; omega)⟩
            obtain ⟨hx0, hx1⟩ := HCB.out x (List.mem_of_getElem? hx)
            obtain ⟨cb, co, rfl, _, hcx⟩ := hc1.rd.at1 hlt (u := .int .i64 x) (by rw [List.getElem?_map, hx]; rfl)
            have HX := Lib.hid hx
            clear hx
            go_wp2_with fail
            refine (bytesClone_any A n c _ (dat.map (Value.int .u8)) _ hdd1.rd (ints_one _ _) (Nat.le_refl _) (by omega)).mono ?_
            rintro e w4 ⟨A4, c4, rfl, hown4, hb4⟩
            have hN4 := hN1.below hb4
            have hK4 := hK1.trans (Kq.of_below hb4 (Nat.le_refl _))
            have hd4 := hdd1.below hb4
            have hc4 := hc1.below hb4
            have hT4 : Tr w4 5 1 A4 n (dat.map (Value.int .u8)) := Tr.of_own hown4
            have hcap4 := own_cap hown4
            clear hN1 hK1 hdd1 hc1 hown4 hb4 hcx
            go_wp2_with fail
            refine (fly_st base g ends now (sent + 1) ds fs1 ⟨now + 1 + L + x, sent, fr, to, A4, n, c4, dat⟩ w4 hN4 (by omega) ⟨hT4, hcap4⟩).mono ?_
            rintro e w5 ⟨rfl, fs5, hA5, hN5, hK5⟩
            have hKK5 := hK4.trans hK5
            have hd5 := hd4.kq hK5 (by decide) (by decide)
            have hc5 := hc4.kq hK5 (by decide) (by decide)
            clear hN4 hK4 hd4 hc4 hT4 hcap4 hK5
            have HA5 := Lib.hid hA5
            clear hA5
            go_wp2_with fail
            go_roundw
            case rel =>
              refine ⟨j + 1, fs5, fl1 ++ [⟨now + 1 + L + x, sent, fr, to, A4, n, c4, dat⟩], by omega, by go_num, HA1.out.trans HA5.out, Lib.hid ?_, ?_, hN5, hKK5, hc5, hd5⟩
              · rw [List.map_append, HK1.out, List.take_add_one, HX.out]
                simp [Fl.key]
              · have := HA5.out.2.1
                simp at this; omega
            case measure => simp [intOf]; omega
          · obtain rfl : j = cn := by omega
            go_wp2_with fail
            go_ret
            refine ⟨rfl, fs1, fl1, HA1.out, ?_, hN1, hK1⟩
            rw [HK1.out, HT.out, List.take_of_length_le (by have := HCN.out; omega)]
end Go.Proofs.Ytlgcdcjfobfoiaa
