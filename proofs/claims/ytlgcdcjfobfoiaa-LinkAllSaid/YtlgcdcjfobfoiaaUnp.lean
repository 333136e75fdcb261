/-
  The contract of input.Unpack. Conditions: sizes within the reach.
-/
import Derived.Test.YtlgcdcjfobfoiaaOn2
import Derived.Test.YtlgcdcjfobfoiaaSl
import Derived.Test.YtlgcdcjfobfoiaaLw1
namespace Go.Proofs.Ytlgcdcjfobfoiaa
open Go.RowKit
set_option maxRecDepth 100000

/-- The inputs that are read from bit p on. -/
def parse (bs : List Nat) : List Inp → Nat → Option (List Inp × Nat)
  | [], p => some ([], p)
  | y :: ys, p => match oneAt bs y p with
    | none => none
    | some (x, q) => match parse bs ys q with
      | none => none
      | some (xs, r) => some (x :: xs, r)

theorem parse_snoc (bs : List Nat) (ys : List Inp) (y : Inp) (p : Nat) :
    parse bs (ys ++ [y]) p = match parse bs ys p with
      | none => none
      | some (xs, q) => match oneAt bs y q with
        | none => none
        | some (x, r) => some (xs ++ [x], r) := by
  induction ys generalizing p with
  | nil =>
    simp only [List.nil_append, parse]
  | cons a ys ih =>
    simp only [List.cons_append, parse]
    cases oneAt bs a p with
    | none => rfl
    | some v =>
      obtain ⟨x, q⟩ := v
      simp only [ih]
      cases parse bs ys q with
      | none => rfl
      | some v =>
        obtain ⟨xs, r⟩ := v
        simp only []
        cases oneAt bs y r with
        | none => rfl
        | some v => rfl
theorem parse_none (bs : List Nat) (ys zs : List Inp) (p : Nat) (h : parse bs ys p = none) : parse bs (ys ++ zs) p = none := by
  induction zs using snoc_ind with
  | h0 => simpa using h
  | hs l x ih => rw [← List.append_assoc, parse_snoc, ih]

theorem oneAt_good {bs : List Nat} {y x : Inp} {p q : Nat} (hy : ¬ y.bad) (h : oneAt bs y p = some (x, q)) : ¬ x.bad := by
  have h1 := valAt_small bs (p + 1) 8 (by decide)
  have h2 := valAt_small bs (p + 10) 8 (by decide)
  have h3 := valAt_small bs (p + 18) 8 (by decide)
  have hy' := hy
  simp only [Inp.bad, not_or, Int.not_lt] at hy'
  have hx : valAt bs (p + 1) 8 ^^^ y.k.toNat < 256 := by
    have : y.k.toNat < 2 ^ 8 := by show y.k.toNat < 256; omega
    exact Nat.xor_lt_two_pow (n := 8) h1 this
  unfold oneAt at h
  split at h
  · cases h
  · split at h
    · injection h with h; injection h with h _; subst h; exact hy
    · split at h
      · cases h
      · split at h
        · cases h
        · split at h
          · injection h with h; injection h with h _; subst h
            simp only [Inp.bad, not_or, Int.not_lt]; omega
          · split at h
            · cases h
            · split at h
              · cases h
              · injection h with h; injection h with h _; subst h
                simp only [Inp.bad, not_or, Int.not_lt]; omega
theorem parse_good {bs : List Nat} : ∀ {ys xs : List Inp} {p q : Nat}, (∀ i ∈ ys, ¬ i.bad) → parse bs ys p = some (xs, q) → xs.length = ys.length ∧ ∀ i ∈ xs, ¬ i.bad := by
  intro ys
  induction ys with
  | nil => intro xs p q _ h; simp only [parse] at h; injection h with h; injection h with h _; subst h; simp
  | cons y ys ih =>
    intro xs p q hg h
    simp only [parse] at h
    cases h1 : oneAt bs y p with
    | none => rw [h1] at h; cases h
    | some v =>
      obtain ⟨x, r⟩ := v
      rw [h1] at h
      simp only [] at h
      cases h2 : parse bs ys r with
      | none => rw [h2] at h; cases h
      | some v =>
        obtain ⟨xs', r'⟩ := v
        rw [h2] at h
        simp only [] at h
        injection h with h; injection h with h _
        subst h
        obtain ⟨e1, e2⟩ := ih (fun i hi => hg i (List.mem_cons_of_mem _ hi)) h2
        refine ⟨by simp [e1], fun i hi => ?_⟩
        rcases List.mem_cons.1 hi with rfl | hi
        · exact oneAt_good (hg y (List.mem_cons_self ..)) h1
        · exact e2 i hi

/-- What Unpack answers. -/
def unp (l : List Inp) (bs : List Nat) : List Inp × Int :=
  if errF l.length l ≠ 0 then ([], errF l.length l) else
    match parse bs l 0 with
    | none => ([], 14)
    | some (xs, _) => if packB (packBits l xs) = bs then (xs, 0) else ([], 3)

theorem good_errF {n : Nat} {l : List Inp} (h1 : 1 ≤ n) (h2 : n ≤ 8) (h3 : l.length = n) (h : ∀ i ∈ l, ¬ i.bad) : errF n l = 0 := errF_0 (by omega) (by omega) (by omega) h

set_option maxHeartbeats 3200000 in
theorem unpack_any (A A' : Option Addr) (n c n' c' B : Nat) (l : List Inp) (bs : List Nat) (w : World) (hn : n = l.length) (hn' : n' = bs.length) (hm : n ≤ 9223372036854775807) (hs : n' ≤ 140737488355328) (hb : ∀ b ∈ bs, b < 256)
   (hr : Rd w B 3 A n (inCs l)) (hr' : Rd w B 1 A' n' (bytesV bs)) (hB : B ≤ w.heap.size) :
    Calls Try.prog 37 #[.slice A n c, .slice A' n' c'] w (RetS2 w 24 3 (unp l bs).1.length (inCs (unp l bs).1) (unp l bs).2) := by
  have HF := Lib.hid (frame_any (n : Int) A n c B l w hn hm hr hB)
  by_cases h0 : errF n l = 0
  · obtain ⟨g1, g2, g3, g4⟩ := errF_eq_0 h0
    obtain ⟨i0, hi0, hz0, hz1, hz2⟩ := info_parts T.info24
    have HH0 := Lib.hid h0
    have HN := Lib.hid hn
    have HN' := Lib.hid hn'
    have HR := Lib.hid hr
    have HR' := Lib.hid hr'
    have HG := Lib.hid g4
    have HB := Lib.hid hb
    have hn8 : n ≤ 8 := by omega
    have hn1 : 1 ≤ n := by omega
    clear h0 hn hn' hr hr' g1 g2 g3 g4 hb
    go_enter Try.func37, Try.ntmps37
    go_wp2_with fail
    refine HF.out.mono ?_
    rintro e w1 ⟨he, hb1⟩
    rw [HH0.out] at he
    subst he
    have hs1 := hb1.size
    go_wp2_with fail
    refine (new_any A' n' c' B bs w1 HN'.out (HR'.out.below (hb1.mono hB)) hs).mono ?_
    rintro e w2 ⟨g, rfl, hgw, hst, hb2⟩
    have hbb2 := hb1.trans (hb2.mono hs1)
    have hgB : w.heap.size ≤ g := by omega
    obtain ⟨base, hbase⟩ : ∃ b, b = w1.heap.size := ⟨_, rfl⟩
    rw [← hbase] at hst
    clear hbase hgw hb2 hb1 hs1
    go_wp2_with fail
    go_loopw [8, 26] (fun o i wr => ∃ (k m p : Nat) (A2 : Option Addr) (c2 : Nat) (xs : List Inp), k ≤ n ∧ m = xs.length ∧ p ≤ 8 * bs.length ∧ i = .int .i64 k ∧ o = .slice A2 m c2 ∧ parse bs (l.take k) 0 = some (xs, p) ∧ wr.ownsRow w.heap.size 24 3 (.slice A2 m c2) m (inCs xs) ∧ RdrSt wr base g bs p ∧ Below w.heap.size w wr) (fun _ i _ => n - (intOf i).toNat)
    case atStart => exact ⟨0, 0, 0, none, 0, [], Nat.zero_le _, rfl, Nat.zero_le _, rfl, rfl, rfl, World.ownsRow_nil _ _ _ _, hst, hbb2⟩
    case round =>
      obtain ⟨k, m, p, A2, c2, xs, hk, hmx, hp, rfl, rfl, hpar, hown, hrd, hb⟩ := hrel
      have HMX := Lib.hid hmx
      have HP := Lib.hid hpar
      have hsz := hb.size
      have hmk : m = k ∨ True := .inr trivial
      by_cases hlt : k < n
      · have hgood := parse_good (fun i hi => HG.out i (List.mem_of_mem_take hi)) hpar
        have hm8 : m ≤ 8 := by rw [hmx, hgood.1, List.length_take]; omega
        obtain ⟨b, o, y, rfl, hbB, hy, y0, y1, y2⟩ := HR.out.inp HN.out hlt hb hB
        have HY := Lib.hid hy
        have hyg := HG.out y (List.mem_of_getElem? hy)
        have htk : l.take (k + 1) = l.take k ++ [y] := by rw [List.take_add_one, hy]; rfl
        have HTK := Lib.hid htk
        have h1 := one_any g base bs y p (wr.alloc (.cells #[.int .i64 y.k, .int .i64 y.x, .int .i64 y.y] 24)) (hrd.below ((Below.refl _ _).alloc (Nat.le_refl _) _)) hp (by rw [← HN'.out]; exact hs) HB.out hyg
        have H1 := Lib.hid h1
        clear h1 hy hyg htk hgood hmx hpar hmk
        go_wp2_with fail
        refine H1.out.mono ?_
        rintro e w3 ⟨x, err, rfl, hgb, hres⟩
        have hgk := hrd.bk
        have hown3 : w3.ownsRow w.heap.size 24 3 (.slice A2 m c2) m (inCs xs) := (hown.alloc _).kept hgb (.inr (by obtain ⟨cs, hk2⟩ := hgk; exact own_ne hown hk2 (by decide)))
        have hb3 : Below w.heap.size w w3 := (hb.alloc hsz (.cells #[.int .i64 y.k, .int .i64 y.x, .int .i64 y.y] 24)).trans (Gb.below hgb hgB (by simp; omega))
        have hsz3 := hb3.size
        clear H1 hgb hgk hown hrd hb y0 y1 y2
        rcases hres with ⟨hno, rfl⟩ | ⟨p', hone, rfl, hrd3, hp'⟩
        · have HNo := Lib.hid hno
          clear hno
          go_wp2_with fail
          go_ret2
          have hun : unp l bs = ([], 14) := by
            have e1 : parse bs (l.take (k + 1)) 0 = none := by rw [HTK.out, parse_snoc, HP.out]; simp [HNo.out]
            have e2 : parse bs l 0 = none := by rw [← List.take_append_drop (k + 1) l]; exact parse_none _ _ _ _ e1
            unfold unp
            rw [if_neg (by rw [← HN.out, HH0.out]; simp), e2]
          rw [hun]
          exact ⟨none, 0, by simp, World.ownsRow_nil _ _ _ _, hb3.alloc hsz3 _⟩
        · have HOn := Lib.hid hone
          clear hone
          go_wp2_with
            (at_builtin
             go_must (refine wpList_append_one _ rfl (.tmp 38) (.tmp 40) _ rfl w.heap.size 24 i0 (.agg #[.int .i64 0, .int .i64 0, .int .i64 0]) 3 24 Try.underlying22 hi0 hz0 hz1 hz2 rfl (by decide) (.slice A2 m c2) m (inCs xs) rfl ((hown3.alloc _).alloc _) (w3.heap.size + 1) 1 24 #[.int .i64 x.k, .int .i64 x.x, .int .i64 x.y] rfl ?c5 rfl ?c1 (m + 1) rfl ?c2 ?c3 ?c4 ?_)
             case c5 => exact (by have := Bk.new (w3.alloc (.cells #[.int .i64 x.k, .int .i64 x.x, .int .i64 x.y] 24)) 24 #[.int .i64 x.k, .int .i64 x.x, .int .i64 x.y]; simpa using this)
             case c1 => simp [Value.oneCell']
             case c2 => unfold maxLen; omega
             case c3 => omega
             case c4 => simp; omega
             intro g4 c4 w4 hown4 hg4 hat4)
          go_roundw
          case measure => simp [intOf]; omega
          case rel =>
            have hbA : Below w3.heap.size w3 ((w3.alloc (.cells #[.int .i64 x.k, .int .i64 x.x, .int .i64 x.y] 24)).alloc (.cells #[.int .i64 x.k, .int .i64 x.x, .int .i64 x.y] 24)) := ((Below.refl _ _).alloc (Nat.le_refl _) _).alloc (by simp) _
            have hrd4 := hrd3.below hbA
            refine ⟨k + 1, m + 1, p', some ⟨g4, 0, none⟩, c4, xs ++ [x], by omega, by simp [HMX.out], hp', by go_num, rfl, by rw [HTK.out, parse_snoc, HP.out]; simp [HOn.out], ?_, ?_, ?_⟩
            · rw [inCs_append]; exact hown4
            · obtain ⟨A5, c5, r1, r2, r3⟩ := hrd4
              have hown3' := (hown3.alloc (.cells #[.int .i64 x.k, .int .i64 x.x, .int .i64 x.y] 24)).alloc (.cells #[.int .i64 x.k, .int .i64 x.x, .int .i64 x.y] 24)
              refine ⟨A5, c5, r1.grown hg4 (fun e1 => own_ne hown3' r1 (by decide) e1.symm), ?_, by have := hg4.size; omega⟩
              refine r2.kept hg4 ?_
              by_cases hA5 : (Value.slice A5 bs.length c5).ownBlock = none
              · exact .inl hA5
              · refine .inr (fun e1 => ?_)
                obtain ⟨q, hq⟩ := Option.ne_none_iff_exists'.1 hA5
                rw [hq] at e1
                obtain ⟨gq, cq, cur, hv, _, hh, _⟩ := (r2.2).resolve_left (fun h => by rw [h.1] at hq; simp [Value.ownBlock] at hq)
                have : gq = q := by rw [hv] at hq; simpa [Value.ownBlock] using hq
                subst this
                exact own_ne hown3' (show Bk _ gq 5 cur from hh) (by decide) e1.symm
            · exact (hb3.trans (hbA.mono hsz3)).grown hg4 (by simp; omega) (fun q hq => (hown3.lt q hq).1)
      · obtain rfl : k = n := by omega
        have hpar' := hpar
        rw [List.take_of_length_le (by rw [← HN.out]; omega)] at hpar'
        have hgood := parse_good HG.out hpar'
        have hmk2 : m = k := by rw [hmx, hgood.1, HN.out]
        have hE : errFs l xs = 0 := by
          unfold errFs
          rw [← HN.out, if_pos HH0.out]
          exact good_errF hn1 hn8 (by rw [hgood.1, HN.out]) hgood.2
        have hP := pack_good A A2 k c m c2 wr.heap.size l xs wr HN.out hmx hn8 hmk2 ((HR.out.below (hb.mono hB)).more (by omega)) (Rd.of_own hown) (Nat.le_refl _) hE HG.out hgood.2
        have hun : unp l bs = if packB (packBits l xs) = bs then (xs, 0) else ([], 3) := by
          unfold unp
          rw [if_neg (by rw [← HN.out, HH0.out]; simp), hpar']
        have hEq : ∀ (A3 : Option Addr) (c3 : Nat) (w3 : World), Rd w3 w3.heap.size 1 A3 (packB (packBits l xs)).length (bytesV (packB (packBits l xs))) → Below w.heap.size w w3 →
            Calls Try.prog 74 #[.slice A3 (packB (packBits l xs)).length c3, .slice A' n' c'] w3 fun e w' => e = .returned (.bool (decide (packB (packBits l xs) = bs))) ∧ ∃ m, w3.drewN m = w' := fun A3 c3 w3 hr3 hb3 =>
          equalBytes_any A3 A' _ c3 n' c' w3.heap.size _ bs w3 rfl HN'.out (by have := packBits_le l xs; have := packB_length (packBits l xs); have := hgood.1; have := HN.out; omega) hr3 ((HR'.out.below (hb3.mono hB)).more (by have := hb3.size; omega))
        have HPk := Lib.hid hP
        have HUn := Lib.hid hun
        have HEq := Lib.hid hEq
        have hownA := hown
        clear hP hun hEq hpar hpar' hgood hmk2 hE hmx hrd hown
        generalize packB (packBits l xs) = L at *
        go_wp2_with fail
        refine HPk.out.mono ?_
        rintro e w5 ⟨A5, c5, rfl, hown5, hb5⟩
        have hbb5 := hb.trans (hb5.mono hsz)
        have hown5' : w5.ownsRow w.heap.size 24 3 (.slice A2 m c2) m (inCs xs) := own_keep hownA hb5
        go_wp2_with fail
        refine (HEq.out A5 c5 w5 (Rd.of_own hown5) hbb5).mono ?_
        rintro e w6 ⟨rfl, mq, rfl⟩
        by_cases hd : L = bs
        · have td : decide (L = bs) = true := by simp [hd]
          have HD := Lib.hid hd
          clear hd
          go_wp2_with fail
          go_ret2
          rw [HUn.out, if_pos HD.out]
          have e1 := HMX.out
          subst e1
          exact ⟨A2, c2, by simp, hown5', ⟨hbb5.os, hbb5.tape, hbb5.output, hbb5.size, hbb5.block⟩⟩
        · have td : decide (L = bs) = false := by simp [hd]
          have HD := Lib.hid hd
          clear hd
          go_wp2_with fail
          go_ret2
          rw [HUn.out, if_neg HD.out]
          exact ⟨none, 0, by simp, World.ownsRow_nil _ _ _ _, ⟨hbb5.os, hbb5.tape, hbb5.output, hbb5.size, hbb5.block⟩⟩
  · have h1 : errF n l = 1 := (errF_01 n l).resolve_left h0
    have hun : unp l bs = ([], 1) := by unfold unp; rw [← hn, h1]; simp
    have HH1 := Lib.hid h1
    have HUn := Lib.hid hun
    clear h0 h1 hun hn hn' hr hr'
    go_enter Try.func37, Try.ntmps37
    go_wp2_with fail
    refine HF.out.mono ?_
    rintro e w1 ⟨he, hb1⟩
    rw [HH1.out] at he
    subst he
    go_wp2_with fail
    go_ret2
    rw [HUn.out]
    exact ⟨none, 0, by simp, World.ownsRow_nil _ _ _ _, hb1⟩
end Go.Proofs.Ytlgcdcjfobfoiaa
