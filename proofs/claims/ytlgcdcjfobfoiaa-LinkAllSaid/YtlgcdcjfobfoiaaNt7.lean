/-
  The contract of Step. Conditions: a network in memory, numbers of moderate size.
-/
import Derived.Test.YtlgcdcjfobfoiaaNt6
namespace Go.Proofs.Ytlgcdcjfobfoiaa
open Go.RowKit
set_option maxRecDepth 100000

theorem bel_drewN {B : Nat} {a w : World} (h : Below B a w) (n : Nat) : Below B a (w.drewN n) := ⟨h.os, h.tape, h.output, h.size, h.block⟩
def Fl.pk (f : Fl) : List Value := [.int .i64 f.fr, .int .i64 f.to, .slice f.A f.n f.c]
def pkCs (l : List Fl) : List Value := l.flatMap Fl.pk
theorem pkCs_append (a b : List Fl) : pkCs (a ++ b) = pkCs a ++ pkCs b := by simp [pkCs, List.flatMap_append]
theorem pkCs_cons (a : Fl) (b : List Fl) : pkCs (a :: b) = a.pk ++ pkCs b := by simp [pkCs]
theorem pkCs_length (l : List Fl) : (pkCs l).length = l.length * 3 := by
  induction l with
  | nil => rfl
  | cons a l ih => rw [pkCs_cons, List.length_append, ih, List.length_cons]; simp [Fl.pk]; omega
theorem pkCs_get (l : List Fl) (k : Nat) (f : Fl) (h : l[k]? = some f) (j : Nat) (hj : j < 3) : (pkCs l)[k * 3 + j]? = f.pk[j]? := by
  induction l generalizing k with
  | nil => simp at h
  | cons a l ih =>
    rw [pkCs_cons]
    cases k with
    | zero =>
      simp at h; subst h
      rw [List.getElem?_append_left (by simp [Fl.pk]; omega)]; simp
    | succ k =>
      rw [List.getElem?_append_right (by simp [Fl.pk]; omega)]
      have := ih k (by simpa using h)
      rw [← this]; congr 1; simp [Fl.pk]; omega

theorem Kq.grownNew {base : Nat} {a w w' : World} {row : Option Nat} (h : Kq base a w) (hg : w.grownBy w' row) (hr : ∀ g, row = some g → a.heap.size ≤ g) : Kq base a w' := by
  refine ⟨hg.os.trans h.os, hg.tape.trans h.tape, hg.output.trans h.output, Nat.le_trans h.size hg.size, fun k h1 h2 => ?_, fun k t cs hk h1 h2 => ?_⟩
  · exact (hg.block k (Nat.lt_of_lt_of_le h2 h.size) (fun e => by have := hr k e.symm; omega)).trans (h.low k h1 h2)
  · exact (h.block k t cs hk h1 h2).grown hg (fun e => by have := hr k e.symm; have := hk.lt; omega)

theorem Tr.grown {w w' : World} {row : Option Nat} {e : TypeId} {size n : Nat} {A : Option Addr} {xs : List Value} (h : Tr w e size A n xs) (hg : w.grownBy w' row) (hr : ∀ q cs, row = some q → ¬ Bk w q e cs) : Tr w' e size A n xs := by
  refine ⟨h.1, fun hn => ?_⟩
  obtain ⟨b, o, cs, hA, hk, hc⟩ := h.2 hn
  exact ⟨b, o, cs, hA, hk.grown hg (fun e => hr b cs e.symm hk), hc⟩
/-- A row of another type has grown. -/
theorem NetSt.grown {w w' : World} {base g : Nat} {ends now sent : Int} {ds : List Dd} {fs : List Fl} {row : Option Nat} (h : NetSt w base g ends now sent ds fs) (hg : w.grownBy w' row) (hr : ∀ q t cs, row = some q → Bk w q t cs → t ≠ 110 ∧ t ≠ 47 ∧ t ≠ 113 ∧ t ≠ 5) : NetSt w' base g ends now sent ds fs := by
  obtain ⟨DA, dc, AA, ac, h1, h2, h3, h4, h5⟩ := h.st
  refine ⟨⟨DA, dc, AA, ac, h1.grown hg (fun e => (hr _ _ _ e.symm h1).1 rfl), h2, h3, h4.grown hg (fun q cs e hk => (hr q _ cs e hk).2.1 rfl), h5.keep fun q cs e hk => hk.grown hg (fun e => (hr _ _ _ e.symm hk).2.2.1 rfl)⟩, h.base, h.good, h.few, fun f hf => ⟨(h.data f hf).1.grown hg (fun q cs e hk => (hr q _ cs e hk).2.2.2 rfl), (h.data f hf).2⟩⟩

theorem own_type {w : World} {base size n q : Nat} {e t : TypeId} {v : Value} {xs : List Value} {cs : Array Value} (h : w.ownsRow base e size v n xs) (hq : v.ownBlock = some q) (hk : Bk w q t cs) : t = e := by
  rcases h.2 with ⟨rfl, _⟩ | ⟨g', cap, cur, rfl, _, hh, _⟩
  · simp [Value.ownBlock] at hq
  · have : g' = q := by simpa [Value.ownBlock] using hq
    subst this
    by_cases h : t = e
    · exact h
    · exact absurd rfl (Bk.ne_ hk hh h)

theorem T.info45 : (Try.prog.info? 45).map (fun i => (i.zero, i.size, i.bytes)) = some (some (.agg #[.int .i64 0, .int .i64 0, .slice none 0 0]), 3, 40) := by kernel_rfl

/-- The first flight is cut off. -/
theorem NetSt.pop {w : World} {base g : Nat} {ends now sent : Int} {ds : List Dd} {f : Fl} {fs : List Fl} {DA AA : Option Addr} {dc ac : Nat} (h : NetSt w base g ends now sent ds (f :: fs))
    (hbk : Bk w g 110 #[.int .i64 ends, .slice DA ds.length dc, .int .i64 now, .int .i64 sent, .slice AA (fs.length + 1) ac]) (ga o : Nat) (hA : AA = some ⟨ga, o, none⟩) (A' : Option Addr) (hA' : A' = if ac = 1 then some ⟨ga, o, none⟩ else some ⟨ga, o + 5, none⟩) :
    NetSt (w.setCell ⟨g, 4, none⟩ (.slice A' fs.length (ac - 1))) base g ends now sent ds fs ∧ Kq base w (w.setCell ⟨g, 4, none⟩ (.slice A' fs.length (ac - 1))) := by
  have hK : Kq base w (w.setCell ⟨g, 4, none⟩ (.slice A' fs.length (ac - 1))) := h.kset 4 _
  refine ⟨?_, hK⟩
  obtain ⟨DA1, dc1, AA1, ac1, h1, h2, h3, h4, h5⟩ := h.st
  have he : some (Obj.cells #[Value.int .i64 ends, .slice DA ds.length dc, .int .i64 now, .int .i64 sent, .slice AA (fs.length + 1) ac] 110 (0, 0)) = some (Obj.cells #[Value.int .i64 ends, .slice DA1 ds.length dc1, .int .i64 now, .int .i64 sent, .slice AA1 (f :: fs).length ac1] 110 (0, 0)) := hbk.symm.trans h1
  simp only [Option.some.injEq, Obj.cells.injEq, Array.mk.injEq, List.cons.injEq, Value.slice.injEq, true_and, and_true] at he
  obtain ⟨⟨rfl, rfl⟩, rfl, _, rfl⟩ := he
  refine ⟨⟨DA, dc, A', ac - 1, ?_, h2, h3, h4.kq hK (by decide) (by decide), ?_⟩, h.base, h.good, h.few, fun x hx => ⟨(h.data x (List.mem_cons_of_mem _ hx)).1.kq hK (by decide) (by decide), (h.data x (List.mem_cons_of_mem _ hx)).2⟩⟩
  · exact hbk.set_ 4 _
  · have h5' : Sh (w.setCell ⟨g, 4, none⟩ (.slice A' fs.length (ac - 1))) base 113 5 AA (fs.length + 1) ac (flCs (f :: fs)) := h5.keep fun q cs _ hk => hk.far (Bk.ne_ hk hbk (by decide)) _
    obtain ⟨e1, e2, e3, e4⟩ := h5'
    refine ⟨flCs_length fs, by omega, by omega, .inr ?_⟩
    rcases e4 with ⟨hn, rfl⟩ | ⟨g3, pre, post, hA3, hb3, hk3, hp3⟩
    · omega
    · rw [hA] at hA3
      simp only [Option.some.injEq, Addr.mk.injEq, and_true] at hA3
      obtain ⟨rfl, rfl⟩ := hA3
      by_cases hc : ac = 1
      · rw [if_pos hc] at hA'
        have hfs : fs = [] := List.eq_nil_of_length_eq_zero (by omega)
        subst hfs
        refine ⟨ga, pre, f.cs ++ post, hA', hb3, ?_, by subst hc; simp⟩
        have : pre ++ (flCs [f] ++ post) = pre ++ (flCs [] ++ (f.cs ++ post)) := by simp [flCs]
        rw [← this]; exact hk3
      · rw [if_neg hc] at hA'
        refine ⟨ga, pre ++ f.cs, post, by rw [hA']; simp [Fl.cs], hb3, ?_, by rw [show ac - 1 - fs.length = ac - (fs.length + 1) by omega]; exact hp3⟩
        have : pre ++ (flCs (f :: fs) ++ post) = pre ++ f.cs ++ (flCs fs ++ post) := by rw [flCs_cons]; simp
        rw [← this]; exact hk3

def StepPost (base g : Nat) (ends now sent : Int) (ds : List Dd) (fs : List Fl) (w : World) (e : Ending) (w' : World) : Prop :=
  ∃ l rest A c, fs = l ++ rest ∧ (∀ f ∈ l, f.due ≤ now + 1) ∧ (∀ f, rest[0]? = some f → now + 1 < f.due) ∧ e = .returned (.slice A l.length c) ∧ w'.ownsRow w.heap.size 45 3 (.slice A l.length c) l.length (pkCs l) ∧
    NetSt w' base g ends (now + 1) sent ds rest ∧ Kq base w w' ∧ (∀ f ∈ l, Tr w' 5 1 f.A f.n (f.dat.map (Value.int .u8)) ∧ f.n ≤ f.c ∧ f.c ≤ maxLen)

def sliceLen : Value → Nat
  | .slice _ n _ => n
  | _ => 0

set_option maxHeartbeats 1600000 in
theorem netStep_any (base g : Nat) (ends now sent : Int) (ds : List Dd) (fs : List Fl) (w : World) (h : NetSt w base g ends now sent ds fs) (ht0 : 0 ≤ now) (ht1 : now ≤ 1000000) (hfs : fs.length ≤ 900000) :
    Calls Try.prog 26 #[.pointer (some ⟨g, 0, none⟩)] w (StepPost base g ends now sent ds fs w) := by
  have hN := h.set_ (ends' := ends) (now' := now + 1) (sent' := sent) 2 (.int .i64 (now + 1)) (fun _ _ => rfl)
  have hK := h.kset 2 (.int .i64 (now + 1))
  obtain ⟨DA, dc, AA, ac, hbk, _⟩ := h.st
  have c2 : w.cell? ⟨g, 2, none⟩ = some (.int .i64 now) := hbk.cell 2
  have f2 := hbk.frozen 2
  obtain ⟨w1, hw1⟩ : ∃ w1, w1 = w.setCell ⟨g, 2, none⟩ (.int .i64 (now + 1)) := ⟨_, rfl⟩
  have hz1 : w1.heap.size = w.heap.size := by rw [hw1]; simp [World.setCell]
  rw [← hw1] at hN hK
  have HW1 := Lib.hid hw1
  have HZ1 := Lib.hid hz1
  clear hw1 hz1 hbk h
  obtain ⟨i0, hi0, hy0, hy1, hy2⟩ := info_parts T.info45
  go_enter Try.func26, Try.ntmps26
  go_wp2_with fail
  rw [← HW1.out]
  clear c2 f2
  go_loopw [3] (fun out wr => ∃ (l rest : List Fl) (OA : Option Addr) (oc m : Nat), Hid (fs = l ++ rest) ∧ Hid (∀ f ∈ l, f.due ≤ now + 1) ∧ m = l.length ∧ out = .slice OA m oc ∧ wr.ownsRow w.heap.size 45 3 (.slice OA m oc) m (pkCs l) ∧ NetSt wr base g ends (now + 1) sent ds rest ∧ Kq base w wr ∧
      Hid (∀ f ∈ l, Tr wr 5 1 f.A f.n (f.dat.map (Value.int .u8)) ∧ f.n ≤ f.c ∧ f.c ≤ maxLen)) (fun out _ => fs.length - sliceLen out)
  case atStart => exact ⟨[], fs, none, 0, 0, Lib.hid rfl, Lib.hid (fun f hf => by cases hf), rfl, rfl, World.ownsRow_nil _ _ _ _, hN, hK, Lib.hid (fun f hf => by cases hf)⟩
  case round =>
    obtain ⟨l, rest, OA, oc, m, HF, HD, hm, rfl, hown, hNr, hKr, HDT⟩ := hrel
    have HM := Lib.hid hm
    clear hm hN hK
    have hml : m + rest.length = fs.length := by have := HF.out; have := HM.out; subst fs; simp; omega
    cases rest with
    | nil =>
      obtain ⟨DA1, dc1, AA1, ac1, hbk1, _⟩ := hNr.st
      have c2 : wr.cell? ⟨g, 2, none⟩ = some (.int .i64 (now + 1)) := hbk1.cell 2
      have c4 : wr.cell? ⟨g, 4, none⟩ = some (.slice AA1 0 ac1) := hbk1.cell 4
      clear hbk1
      go_wp2_with fail
      go_quiet (fail)
      go_wp2_with fail
      go_ret
      obtain rfl := HM.out
      exact ⟨l, [], OA, oc, HF.out, HD.out, fun f hf => by simp at hf, rfl, hown, hNr.below (bel_drewN (Below.refl _ _) _), hKr.drewN _, fun f hf => ⟨(HDT.out f hf).1.below (bel_drewN (Below.refl _ _) _), (HDT.out f hf).2⟩⟩
    | cons f rest =>
      obtain ⟨DA1, dc1, AA1, ac1, hbk1, hdc1, hdm1, hdt1, hsh1⟩ := hNr.st
      obtain ⟨ga, o, cs1, rfl, hga, hgb, hcell⟩ := hsh1.open_ (by simp)
      have hacm : rest.length + 1 ≤ ac1 ∧ ac1 ≤ maxLen := ⟨hsh1.2.1, hsh1.2.2.1⟩
      have c2 : wr.cell? ⟨g, 2, none⟩ = some (.int .i64 (now + 1)) := hbk1.cell 2
      have c4 : wr.cell? ⟨g, 4, none⟩ = some (.slice (some ⟨ga, o, none⟩) (rest.length + 1) ac1) := hbk1.cell 4
      have d0 : wr.cell? ⟨ga, o, none⟩ = some (.int .i64 f.due) := hcell 0 _ rfl
      have d2 : wr.cell? ⟨ga, o + 2, none⟩ = some (.int .i64 f.fr) := hcell 2 _ rfl
      have d3 : wr.cell? ⟨ga, o + 3, none⟩ = some (.int .i64 f.to) := hcell 3 _ rfl
      have d4 : wr.cell? ⟨ga, o + 4, none⟩ = some (.slice f.A f.n f.c) := hcell 4 _ rfl
      have d3' : wr.cell? ⟨ga, o + 2 + 1, none⟩ = some (.int .i64 f.to) := d3
      have d4' : wr.cell? ⟨ga, o + 2 + 2, none⟩ = some (.slice f.A f.n f.c) := d4
      have f4 := hbk1.frozen 4
      obtain ⟨r, hr⟩ : ∃ r, r = rest.length := ⟨_, rfl⟩
      rw [← hr] at c4
      have hr0 : (0 : Int) < (r : Int) + 1 := by omega
      have HR := Lib.hid hr
      have HSH := Lib.hid hsh1
      clear hr hsh1 hcell
      by_cases hd : f.due ≤ now + 1
      · go_wp2_with fail
        go_quiet (fail)
        rename_i nq
        have hND : NetSt (wr.drewN nq) base g ends (now + 1) sent ds (f :: rest) := hNr.below (bel_drewN (Below.refl _ _) _)
        have hKD : Kq base w (wr.drewN nq) := hKr.drewN _
        have hownD : (wr.drewN nq).ownsRow w.heap.size 45 3 (.slice OA m oc) m (pkCs l) := hown
        have HDD : Hid (∀ f ∈ l, Tr (wr.drewN nq) 5 1 f.A f.n (f.dat.map (Value.int .u8)) ∧ f.n ≤ f.c ∧ f.c ≤ maxLen) := HDT
        have hbkD : Bk (wr.drewN nq) g 110 #[.int .i64 ends, .slice DA1 ds.length dc1, .int .i64 (now + 1), .int .i64 sent, .slice (some ⟨ga, o, none⟩) (f :: rest).length ac1] := hbk1
        have hgbD : Bk (wr.drewN nq) ga 113 cs1 := hgb
        clear hNr hKr hown HDT hbk1 hgb HSH
        replace c4 : (wr.drewN nq).cell? ⟨g, 4, none⟩ = some (.slice (some ⟨ga, o, none⟩) (r + 1) ac1) := c4
        replace d2 : (wr.drewN nq).cell? ⟨ga, o + 2, none⟩ = some (.int .i64 f.fr) := d2
        replace d3 : (wr.drewN nq).cell? ⟨ga, o + 3, none⟩ = some (.int .i64 f.to) := d3
        replace d4 : (wr.drewN nq).cell? ⟨ga, o + 4, none⟩ = some (.slice f.A f.n f.c) := d4
        replace d3' : (wr.drewN nq).cell? ⟨ga, o + 2 + 1, none⟩ = some (.int .i64 f.to) := d3'
        replace d4' : (wr.drewN nq).cell? ⟨ga, o + 2 + 2, none⟩ = some (.slice f.A f.n f.c) := d4'
        have hszD : w.heap.size ≤ (wr.drewN nq).heap.size := hKD.size
        have hac : 1 ≤ ac1 ∧ ac1 ≤ 9223372036854775807 ∧ r + 1 ≤ ac1 := by have := HR.out; unfold maxLen at hacm; omega
        obtain ⟨ha1, ha2, ha3⟩ := hac
        have hrb : r ≤ 900000 := by have := HR.out; simp only [List.length_cons] at hml; omega
        have hmb : m ≤ 900000 := by omega
        have hmf : m < fs.length := by simp only [List.length_cons] at hml; omega
        clear hacm hml hga hdt1 hdc1 hdm1 c2 d0 f4
        generalize wr.drewN nq = wD at *
        by_cases hac1 : ac1 = 1
        · subst hac1
          obtain rfl : r = 0 := by omega
          go_wp2_with
            (at_builtin
             go_must (refine wpList_append_one _ rfl (.tmp 31) (.tmp 39) _ rfl w.heap.size 45 i0 (.agg #[.int .i64 0, .int .i64 0, .slice none 0 0]) 3 40 Try.underlying42 hi0 hy0 hy1 hy2 rfl (by decide) (.slice OA m oc) m (pkCs l) rfl (hownD.alloc _) wD.heap.size 1 45 #[.int .i64 f.fr, .int .i64 f.to, .slice f.A f.n f.c] rfl (Bk.new _ _ _) rfl ?c1 (m + 1) rfl ?c2 ?c3 ?c4 ?_)
             case c1 => simp [Value.oneCell']
             case c2 => unfold maxLen; omega
             case c3 => omega
             case c4 => simp; omega
             intro g5 cc5 w5 hown5 hg5 hat5
             have hN5 : NetSt w5 base g ends (now + 1) sent ds (f :: rest) := (hND.below ((Below.refl _ _).alloc (Nat.le_refl _) _)).grown hg5 (fun q t cs hq hk => by have := own_type (hownD.alloc _) hq hk; subst this; decide)
             have hbk5 := (hbkD.alloc (.cells #[.int .i64 f.fr, .int .i64 f.to, .slice f.A f.n f.c] 45)).grown hg5 (fun e => by have := own_type (hownD.alloc (.cells #[.int .i64 f.fr, .int .i64 f.to, .slice f.A f.n f.c] 45)) e.symm (hbkD.alloc _); exact absurd this (by decide))
             have c45 : w5.cell? ⟨g, 4, none⟩ = some (.slice (some ⟨ga, o, none⟩) 1 1) := by have h9 := hbk5.cell 4; rw [show (f :: rest).length = 1 by rw [List.length_cons, ← HR.out]] at h9; exact h9
             have f45 := hbk5.frozen 4)
          have hpop := hN5.pop hbk5 ga o rfl (some ⟨ga, o, none⟩) (by simp)
          have hr9 : rest.length = 0 := HR.out.symm
          rw [hr9] at hpop
          have hownF := own_far hown5 hbk5 (by decide) 4 (.slice (some ⟨ga, o, none⟩) 0 (1 - 1))
          have hKF : Kq base w (w5.setCell ⟨g, 4, none⟩ (.slice (some ⟨ga, o, none⟩) 0 (1 - 1))) := ((hKD.alloc _).grownNew hg5 (fun q hq => (hownD.lt q hq).1)).trans hpop.2
          refine ⟨⟨l ++ [f], rest, some ⟨g5, 0, none⟩, cc5, m + 1, Lib.hid (by rw [HF.out]; simp), Lib.hid (fun x hx => ?_), by rw [HM.out]; simp, rfl, ?_, hpop.1, hKF, Lib.hid (fun x hx => ?_)⟩, by simp only [sliceLen]; omega⟩
          · rcases List.mem_append.1 hx with hx | hx
            · exact HD.out x hx
            · obtain rfl := List.mem_singleton.1 hx; exact hd
          · rw [pkCs_append]; exact hownF
          · rcases List.mem_append.1 hx with hx | hx
            · exact ⟨(((HDD.out x hx).1.below ((Below.refl _ _).alloc (Nat.le_refl _) _)).grown hg5 (fun q cs hq hk => by have := own_type (hownD.alloc _) hq hk; exact absurd this (by decide))).kq hpop.2 (by decide) (by decide), (HDD.out x hx).2⟩
            · obtain rfl := List.mem_singleton.1 hx
              exact ⟨(hN5.data x (by simp)).1.kq hpop.2 (by decide) (by decide), (hN5.data x (by simp)).2⟩
        · have hacb : (ac1 == 1) = false := by simpa using hac1
          have hac2 : 1 < ac1 := by omega
          go_wp2_with
            (at_builtin
             go_must (refine wpList_append_one _ rfl (.tmp 31) (.tmp 39) _ rfl w.heap.size 45 i0 (.agg #[.int .i64 0, .int .i64 0, .slice none 0 0]) 3 40 Try.underlying42 hi0 hy0 hy1 hy2 rfl (by decide) (.slice OA m oc) m (pkCs l) rfl (hownD.alloc _) wD.heap.size 1 45 #[.int .i64 f.fr, .int .i64 f.to, .slice f.A f.n f.c] rfl (Bk.new _ _ _) rfl ?c1 (m + 1) rfl ?c2 ?c3 ?c4 ?_)
             case c1 => simp [Value.oneCell']
             case c2 => unfold maxLen; omega
             case c3 => omega
             case c4 => simp; omega
             intro g5 cc5 w5 hown5 hg5 hat5
             have hN5 : NetSt w5 base g ends (now + 1) sent ds (f :: rest) := (hND.below ((Below.refl _ _).alloc (Nat.le_refl _) _)).grown hg5 (fun q t cs hq hk => by have := own_type (hownD.alloc _) hq hk; subst this; decide)
             have hbk5 := (hbkD.alloc (.cells #[.int .i64 f.fr, .int .i64 f.to, .slice f.A f.n f.c] 45)).grown hg5 (fun e => by have := own_type (hownD.alloc (.cells #[.int .i64 f.fr, .int .i64 f.to, .slice f.A f.n f.c] 45)) e.symm (hbkD.alloc _); exact absurd this (by decide))
             have c45 : w5.cell? ⟨g, 4, none⟩ = some (.slice (some ⟨ga, o, none⟩) (r + 1) ac1) := by rw [HR.out]; exact hbk5.cell 4
             have f45 := hbk5.frozen 4)
          have hpop := hN5.pop hbk5 ga o rfl (some ⟨ga, o + 5, none⟩) (by rw [if_neg hac1])
          have hr9 : rest.length = r := HR.out.symm
          rw [hr9] at hpop
          have hownF := own_far hown5 hbk5 (by decide) 4 (.slice (some ⟨ga, o + 5, none⟩) r (ac1 - 1))
          have hKF : Kq base w (w5.setCell ⟨g, 4, none⟩ (.slice (some ⟨ga, o + 5, none⟩) r (ac1 - 1))) := ((hKD.alloc _).grownNew hg5 (fun q hq => (hownD.lt q hq).1)).trans hpop.2
          refine ⟨⟨l ++ [f], rest, some ⟨g5, 0, none⟩, cc5, m + 1, Lib.hid (by rw [HF.out]; simp), Lib.hid (fun x hx => ?_), by rw [HM.out]; simp, rfl, ?_, hpop.1, hKF, Lib.hid (fun x hx => ?_)⟩, by simp only [sliceLen]; omega⟩
          · rcases List.mem_append.1 hx with hx | hx
            · exact HD.out x hx
            · obtain rfl := List.mem_singleton.1 hx; exact hd
          · rw [pkCs_append]; exact hownF
          · rcases List.mem_append.1 hx with hx | hx
            · exact ⟨(((HDD.out x hx).1.below ((Below.refl _ _).alloc (Nat.le_refl _) _)).grown hg5 (fun q cs hq hk => by have := own_type (hownD.alloc _) hq hk; exact absurd this (by decide))).kq hpop.2 (by decide) (by decide), (HDD.out x hx).2⟩
            · obtain rfl := List.mem_singleton.1 hx
              exact ⟨(hN5.data x (by simp)).1.kq hpop.2 (by decide) (by decide), (hN5.data x (by simp)).2⟩
      · have hd' : now + 1 < f.due := by omega
        go_wp2_with fail
        go_quiet (fail)
        go_wp2_with fail
        go_ret
        obtain rfl := HM.out
        exact ⟨l, f :: rest, OA, oc, HF.out, HD.out, fun x hx => by simp at hx; subst hx; exact hd', rfl, hown, hNr.below (bel_drewN (Below.refl _ _) _), hKr.drewN _, fun f hf => ⟨(HDT.out f hf).1.below (bel_drewN (Below.refl _ _) _), (HDT.out f hf).2⟩⟩
end Go.Proofs.Ytlgcdcjfobfoiaa
