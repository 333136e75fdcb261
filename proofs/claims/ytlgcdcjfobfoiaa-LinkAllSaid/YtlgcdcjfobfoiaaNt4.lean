/-
  A network in memory ('NetSt'); the contract of New. Conditions: the deeds can be read.
-/
import Derived.Test.YtlgcdcjfobfoiaaNt3
namespace Go.Proofs.Ytlgcdcjfobfoiaa
open Go.RowKit
set_option maxRecDepth 100000

structure Dd where
  kind : Int
  pk : Int
  n : Int
def Dd.cs (d : Dd) : List Value := [.int .i64 d.kind, .int .i64 d.pk, .int .i64 d.n]
def Dd.bad (d : Dd) : Prop := d.kind < 0 ∨ 2 < d.kind ∨ d.pk < 0 ∨ 32767 < d.pk ∨ d.n < 0 ∨ 50 < d.n ∨ (d.kind = 0 ∧ d.n ≠ 0)
instance (d : Dd) : Decidable d.bad := by unfold Dd.bad; infer_instance
def ddCs (l : List Dd) : List Value := l.flatMap Dd.cs
theorem ddCs_append (a b : List Dd) : ddCs (a ++ b) = ddCs a ++ ddCs b := by simp [ddCs, List.flatMap_append]
theorem ddCs_cons (a : Dd) (b : List Dd) : ddCs (a :: b) = a.cs ++ ddCs b := by simp [ddCs]
theorem ddCs_length (l : List Dd) : (ddCs l).length = l.length * 3 := by
  induction l with
  | nil => rfl
  | cons a l ih => rw [ddCs_cons, List.length_append, ih, List.length_cons]; simp [Dd.cs]; omega
theorem ddCs_get (l : List Dd) (k : Nat) (d : Dd) (h : l[k]? = some d) (j : Nat) (hj : j < 3) : (ddCs l)[k * 3 + j]? = d.cs[j]? := by
  induction l generalizing k with
  | nil => simp at h
  | cons a l ih =>
    rw [ddCs_cons]
    cases k with
    | zero =>
      simp at h; subst h
      rw [List.getElem?_append_left (by simp [Dd.cs]; omega)]; simp
    | succ k =>
      rw [List.getElem?_append_right (by simp [Dd.cs]; omega)]
      have := ih k (by simpa using h)
      rw [← this]; congr 1; simp [Dd.cs]; omega
theorem Rd.dd {w : World} {B n : Nat} {A : Option Addr} {l : List Dd} (h : Rd w B 3 A n (ddCs l)) (k : Nat) (d : Dd) (hk : l[k]? = some d) (hn : k < n) :
    ∃ b o, A = some ⟨b, o, none⟩ ∧ b < B ∧ w.cell? ⟨b, o + k * 3, none⟩ = some (.int .i64 d.kind) ∧ w.cell? ⟨b, o + k * 3 + 1, none⟩ = some (.int .i64 d.pk) ∧ w.cell? ⟨b, o + k * 3 + 2, none⟩ = some (.int .i64 d.n) := by
  obtain ⟨b, o, hA, hb, hc⟩ := h.2 (by omega)
  refine ⟨b, o, hA, hb, ?_, ?_, ?_⟩
  · exact hc (k * 3) _ (ddCs_get l k d hk 0 (by omega))
  · rw [Nat.add_assoc]; exact hc (k * 3 + 1) _ (ddCs_get l k d hk 1 (by omega))
  · rw [Nat.add_assoc]; exact hc (k * 3 + 2) _ (ddCs_get l k d hk 2 (by omega))

section
variable {P : Program}
/-- 'append(s, x)', ONE element, as one step of a region that draws. -/
theorem step_append_one {ops : Array Oper} {o : Oper} {a : Act} {w : World} {K : Act → World → Prop} {Q : Exit → Act → World → Prop} {E : Prop} (hgd : o.guard = none) (s x : Operand) (t : TypeId)
    (ho : o.op = .call { callee := .builtin .append, args := #[s, x], argTypes := #[t, t] })
    (base : Nat) (e : TypeId) (i : TypeInfo) (z : Value) (size bytes : Nat) (ht : P.underlying t = some (.slice e)) (hi : P.info? e = some i) (hz : i.zero = some z)
    (hsize : i.size = size) (hby : i.bytes = bytes) (hzs : z.cells.size = size) (hsz : 0 < size)
    (v : Value) (n : Nat) (xs : List Value) (hs : a.eval s = v) (hown : w.ownsRow base e size v n xs)
    (b c : Nat) (t' : TypeId) (cs : Array Value) (hx : a.eval x = .slice (some ⟨b, 0, none⟩) 1 c) (hr : Bk w b t' cs) (hcs : cs.size = size) (h1 : ∀ u ∈ cs.toList, u.oneCell' = true)
    (n' : Nat) (hn' : n' = n + 1) (h63 : n' ≤ maxLen) (hbytes : n' * bytes ≤ 140737488355328) (hbase : base ≤ w.heap.size)
    (h : ∀ g' c' w', w'.ownsRow base e size (.slice (some ⟨g', 0, none⟩) n' c') n' (xs ++ cs.toList) → w.grownBy w' v.ownBlock → (v.ownBlock = some g' ∨ g' = w.heap.size) → K (a.put o.dst (.slice (some ⟨g', 0, none⟩) n' c')) w') :
    if Region.wanted o (yielded ops a.tmps) = true then Oper.wp P o a w K Q else E := by
  have hw : Region.wanted o (yielded ops a.tmps) = true := by simp [Region.wanted, hgd]
  rw [if_pos hw]
  subst hn'
  have hrd : Rd w w.heap.size size (some ⟨b, 0, none⟩) 1 cs.toList :=
    ⟨by simp [hcs], fun _ => ⟨_, _, rfl, hr.lt, fun j u hu => by
      rw [Nat.zero_add]
      exact (hr.cell j).trans (by simpa using hu)⟩⟩
  refine wp_append_rd w s x t ho base e i z size bytes ht hi hz hsize hby hzs hsz v n xs hs hown _ _ 1 c _ hx hrd h1 h63 hbytes hbase fun A' c' w' h2 h3 h4 => ?_
  obtain ⟨g, cap, hv, _, hlt⟩ := h2.form (by omega)
  have hA : A' = some ⟨g, 0, none⟩ := by injection hv
  subst hA
  refine h g c' w' h2 h3 ?_
  rcases h4 with h4 | h4
  · exact .inl (by rw [← h4]; rfl)
  · exact .inr (by simpa [Value.ownBlock] using h4)
end

theorem own_far {w : World} {base size n g : Nat} {e t : TypeId} {v : Value} {xs : List Value} {cs : Array Value} (h : w.ownsRow base e size v n xs) (hg : Bk w g t cs) (hne : e ≠ t) (i : Nat) (u : Value) :
    (w.setCell ⟨g, i, none⟩ u).ownsRow base e size v n xs :=
  h.kept (row := some g) ⟨rfl, rfl, rfl, by simp [World.setCell], fun k _ hk => Below.heap_setCell _ _ _ _ (fun e => hk (by rw [show k = g from e]))⟩ (.inr (own_ne h hg hne))

def newErr (ends : Int) (ds : List Dd) : Int := if ends < 1 ∨ 8 < ends then 1 else if 1000 < ds.length then 2 else if ∃ d ∈ ds, d.bad then 1 else 0

/-- A network at block g. -/
structure NetSt (w : World) (base g : Nat) (ends now sent : Int) (ds : List Dd) (fs : List Fl) : Prop where
  st : ∃ DA dc AA ac, Bk w g 110 #[.int .i64 ends, .slice DA ds.length dc, .int .i64 now, .int .i64 sent, .slice AA fs.length ac] ∧ ds.length ≤ dc ∧ dc ≤ maxLen ∧ Tr w 47 3 DA ds.length (ddCs ds) ∧ Sh w base 113 5 AA fs.length ac (flCs fs)
  base : base ≤ g
  good : ∀ d ∈ ds, ¬ d.bad
  few : ds.length ≤ 1000
  data : ∀ f ∈ fs, Tr w 5 1 f.A f.n (f.dat.map (Value.int .u8)) ∧ f.n ≤ f.c ∧ f.c ≤ maxLen

theorem T.info47 : (Try.prog.info? 47).map (fun i => (i.zero, i.size, i.bytes)) = some (some (.agg #[.int .i64 0, .int .i64 0, .int .i64 0]), 3, 24) := by kernel_rfl

def NetNewPost (w : World) (ends : Int) (ds : List Dd) (e : Ending) (w' : World) : Prop :=
  Below w.heap.size w w' ∧ ((newErr ends ds ≠ 0 ∧ e = .returned (.tuple #[.pointer none, .int .i64 (newErr ends ds)])) ∨
    (newErr ends ds = 0 ∧ ∃ g, e = .returned (.tuple #[.pointer (some ⟨g, 0, none⟩), .int .i64 0]) ∧ NetSt w' w.heap.size g ends 0 0 ds []))

set_option maxHeartbeats 1600000 in
theorem netNew_any (ends : Int) (A : Option Addr) (n c B : Nat) (ds : List Dd) (w : World) (hr : Rd w B 3 A n (ddCs ds)) (hn : n = ds.length) (hnc : n ≤ c) (hc : c ≤ maxLen) (hB : B ≤ w.heap.size) :
    Calls Try.prog 23 #[.int .i64 ends, .slice A n c] w (NetNewPost w ends ds) := by
  obtain ⟨i0, hi0, hz0, hz1, hz2⟩ := info_parts T.info47
  have hc' : c ≤ 9223372036854775807 := hc
  by_cases h1 : ends < 1
  · have he : newErr ends ds = 1 := by simp [newErr, h1]
    have HE := Lib.hid he
    clear he hr
    go_enter Try.func23, Try.ntmps23
    go_wp2_with fail
    refine bodyPost_ret (v := .tuple #[.pointer none, .int .i64 1]) (by simp [results, Try.results23, go_sem]) rfl ⟨Below.refl _ _, .inl ⟨by rw [HE.out]; decide, by rw [HE.out]⟩⟩
  by_cases h2 : 8 < ends
  · have he : newErr ends ds = 1 := by simp [newErr, h2]
    have HE := Lib.hid he
    clear he hr
    go_enter Try.func23, Try.ntmps23
    go_wp2_with fail
    refine bodyPost_ret (v := .tuple #[.pointer none, .int .i64 1]) (by simp [results, Try.results23, go_sem]) rfl ⟨Below.refl _ _, .inl ⟨by rw [HE.out]; decide, by rw [HE.out]⟩⟩
  by_cases h3 : 1000 < n
  · have he : newErr ends ds = 2 := by simp [newErr, h1, h2, ← hn, h3]
    have HE := Lib.hid he
    clear he hr hn
    go_enter Try.func23, Try.ntmps23
    go_wp2_with fail
    refine bodyPost_ret (v := .tuple #[.pointer none, .int .i64 2]) (by simp [results, Try.results23, go_sem]) rfl ⟨Below.refl _ _, .inl ⟨by rw [HE.out]; decide, by rw [HE.out]⟩⟩
  have hE : newErr ends ds = if ∃ d ∈ ds, d.bad then 1 else 0 := by
    unfold newErr
    rw [if_neg (by omega), if_neg (by omega)]
  have HE := Lib.hid hE
  have HN := Lib.hid hn
  have HR := Lib.hid hr
  clear hE hn hr
  go_enter Try.func23, Try.ntmps23
  go_wp2_with fail
  obtain ⟨g, hg⟩ : ∃ g, g = w.heap.size := ⟨_, rfl⟩
  have hB0 := (Below.refl w.heap.size w).alloc (Nat.le_refl _) (.cells #[.int .i64 ends, .slice none 0 0, .int .i64 0, .int .i64 0, .slice none 0 0] 110)
  have hb0 := Bk.new w 110 #[.int .i64 ends, .slice none 0 0, .int .i64 0, .int .i64 0, .slice none 0 0]
  rw [← hg] at hb0
  rw [← hg]
  have hgw : w.heap.size ≤ g := by omega
  clear hg
  generalize w.alloc (.cells #[.int .i64 ends, .slice none 0 0, .int .i64 0, .int .i64 0, .slice none 0 0] 110) = w1 at *
  go_loopw [23] (fun i wr => ∃ (k : Nat) (DA : Option Addr) (dc : Nat), k ≤ n ∧ i = .int .i64 k ∧ (∀ d ∈ ds.take k, ¬ d.bad) ∧ Bk wr g 110 #[.int .i64 ends, .slice DA k dc, .int .i64 0, .int .i64 0, .slice none 0 0] ∧ wr.ownsRow w.heap.size 47 3 (.slice DA k dc) k (ddCs (ds.take k)) ∧ Below w.heap.size w wr) (fun i _ => n - (intOf i).toNat)
  case atStart => exact ⟨0, none, 0, Nat.zero_le _, rfl, by simp, hb0, World.ownsRow_nil _ _ _ _, hB0⟩
  case round =>
    obtain ⟨k, DA, dc, hk, rfl, hgood, hbk, hown, hb⟩ := hrel
    have HG := Lib.hid hgood
    clear hgood hb0 hB0
    by_cases hlt : k < n
    · obtain ⟨d, hd⟩ : ∃ d, ds[k]? = some d := ⟨_, List.getElem?_eq_getElem (by have := HN.out; omega)⟩
      obtain ⟨b, o, rfl, hbB, q0, q1, q2⟩ := ((HR.out.below (hb.mono hB))).dd k d hd hlt
      have HD := Lib.hid hd
      have HBAD := Lib.hid (show d.bad → newErr ends ds = 1 from fun hbd => by rw [HE.out, if_pos ⟨d, List.mem_of_getElem? hd, hbd⟩])
      clear hd
      have hcase : ¬ d.bad ∨ d.bad ∧ (d.kind < 0 ∨ (0 ≤ d.kind ∧ 2 < d.kind) ∨ (0 ≤ d.kind ∧ d.kind ≤ 2 ∧ d.pk < 0) ∨ (0 ≤ d.kind ∧ d.kind ≤ 2 ∧ 0 ≤ d.pk ∧ 32768 ≤ d.pk) ∨ (0 ≤ d.kind ∧ d.kind ≤ 2 ∧ 0 ≤ d.pk ∧ d.pk < 32768 ∧ d.n < 0) ∨ (0 ≤ d.kind ∧ d.kind ≤ 2 ∧ 0 ≤ d.pk ∧ d.pk < 32768 ∧ 0 ≤ d.n ∧ 50 < d.n) ∨
          (0 ≤ d.kind ∧ d.kind ≤ 2 ∧ 0 ≤ d.pk ∧ d.pk < 32768 ∧ 0 ≤ d.n ∧ d.n ≤ 50 ∧ (d.kind == 0) = true ∧ (d.n != 0) = true)) := by
        by_cases h : d.bad
        · refine .inr ⟨h, ?_⟩
          unfold Dd.bad at h
          simp only [beq_iff_eq, bne_iff_ne]
          omega
        · exact .inl h
      rcases hcase with hgd | ⟨hbd, hcase⟩
      · have HGD := Lib.hid hgd
        have hgd' := hgd
        unfold Dd.bad at hgd'
        have c1 : 0 ≤ d.kind := by omega
        have c2 : d.kind ≤ 2 := by omega
        have c3 : 0 ≤ d.pk := by omega
        have c4 : d.pk < 32768 := by omega
        have c5 : 0 ≤ d.n := by omega
        have c6 : d.n ≤ 50 := by omega
        have c7 : ((d.kind == 0) = true ∧ (d.n != 0) = false) ∨ (d.kind == 0) = false := by
          by_cases h : d.kind = 0
          · exact .inl ⟨by simp [h], by simp; omega⟩
          · exact .inr (by simp [h])
        clear hgd hgd'
        have c0 : wr.cell? ⟨g, 1, none⟩ = some (.slice DA k dc) := hbk.cell 1
        rcases c7 with ⟨c7, c8⟩ | c7
        all_goals
          go_wp2_with fail
          have hown1 : (wr.alloc (.cells #[.int .i64 d.kind, .int .i64 d.pk, .int .i64 d.n] 47)).ownsRow w.heap.size 47 3 (.slice DA k dc) k (ddCs (ds.take k)) := hown.alloc _
          have hbk1 := hbk.alloc (.cells #[.int .i64 d.kind, .int .i64 d.pk, .int .i64 d.n] 47)
          have hh1 := Bk.new wr 47 #[.int .i64 d.kind, .int .i64 d.pk, .int .i64 d.n]
          have hb1 := hb.alloc hb.size (.cells #[.int .i64 d.kind, .int .i64 d.pk, .int .i64 d.n] 47)
          clear hown hbk hb q0 q1 q2 c0 c1 c2 c3 c4 c5 c6 c7
          generalize wr.alloc (.cells #[.int .i64 d.kind, .int .i64 d.pk, .int .i64 d.n] 47) = W1 at *
          generalize wr.heap.size = hh at *
          have e0 : W1.cell? ⟨g, 1, none⟩ = some (.slice DA k dc) := hbk1.cell 1
          have e1 : W1.cell? ⟨hh, 0, none⟩ = some (.int .i64 d.kind) := hh1.cell 0
          have e2 : W1.cell? ⟨hh, 1, none⟩ = some (.int .i64 d.pk) := hh1.cell 1
          have e3 : W1.cell? ⟨hh, 2, none⟩ = some (.int .i64 d.n) := hh1.cell 2
          have e0' : (W1.alloc (.cells #[.int .i64 d.kind, .int .i64 d.pk, .int .i64 d.n] 47)).cell? ⟨g, 1, none⟩ = some (.slice DA k dc) := (hbk1.alloc _).cell 1
          have hsz1 : w.heap.size ≤ W1.heap.size := hb1.size
          have hk9 : k + 1 ≤ 1000 := by omega
          go_region_law
            (refine step_append_one rfl (.tmp 69) (.tmp 71) 36 rfl w.heap.size 47 i0 (.agg #[.int .i64 0, .int .i64 0, .int .i64 0]) 3 24 Try.underlying36 hi0 hz0 hz1 hz2 rfl (by decide) (.slice DA k dc) k (ddCs (ds.take k)) rfl
               (World.ownsRow.alloc (w := W1.drew) hown1 _) W1.heap.size 1 47 #[.int .i64 d.kind, .int .i64 d.pk, .int .i64 d.n] rfl (Bk.new W1.drew _ _) rfl ?c1 (k + 1) rfl ?c2 ?c3 ?c4 ?_
             case c1 => simp [Value.oneCell']
             case c2 => unfold maxLen; omega
             case c3 => omega
             case c4 => simp; omega
             intro g5 cc5 w5 hown5 hg5 hat5
             have hbk5 := ((hbk1.drewN 1).alloc (.cells #[.int .i64 d.kind, .int .i64 d.pk, .int .i64 d.n] 47)).grown hg5 (fun e => own_ne hown1 hbk1 (by decide) e.symm)
             have e5 : w5.cell? ⟨g, 1, none⟩ = some (.slice DA k dc) := hbk5.cell 1
             have f5 : w5.frozen? ⟨g, 1, none⟩ = false := hbk5.frozen 1)
          all_goals
            have hrow : ∀ q, (Value.slice DA k dc).ownBlock = some q → w.heap.size ≤ q := fun q hq => (hown1.lt q hq).1
            have hb6 : Below w.heap.size w (w5.setCell ⟨g, 1, none⟩ (.slice (some ⟨g5, 0, none⟩) (k + 1) cc5)) := ((hb1.drew.alloc hb1.size _).grown hg5 (by have := hb1.size; simp; omega) hrow).setCell hgw _
            have hbk6 : Bk (w5.setCell ⟨g, 1, none⟩ (.slice (some ⟨g5, 0, none⟩) (k + 1) cc5)) g 110 #[.int .i64 ends, .slice (some ⟨g5, 0, none⟩) (k + 1) cc5, .int .i64 0, .int .i64 0, .slice none 0 0] := hbk5.set_ 1 (.slice (some ⟨g5, 0, none⟩) (k + 1) cc5)
            have hown6 := own_far hown5 hbk5 (by decide) 1 (.slice (some ⟨g5, 0, none⟩) (k + 1) cc5)
            have htk : ds.take (k + 1) = ds.take k ++ [d] := by rw [List.take_add_one, HD.out]; rfl
            have HTK := Lib.hid htk
            clear htk hrow hown5 hg5 hat5 hbk5 e5 f5 hown1 hbk1 hb1 hh1 e0 e1 e2 e3 e0' hsz1
            generalize w5.setCell ⟨g, 1, none⟩ (.slice (some ⟨g5, 0, none⟩) (k + 1) cc5) = W6 at *
            go_wp2_with fail
            go_roundw
            case rel =>
              refine ⟨k + 1, some ⟨g5, 0, none⟩, cc5, by omega, by go_num, fun x hx => ?_, hbk6, ?_, hb6⟩
              · rw [HTK.out] at hx
                rcases List.mem_append.1 hx with hx | hx
                · exact HG.out x hx
                · obtain rfl := List.mem_singleton.1 hx
                  exact HGD.out
              · rw [HTK.out, ddCs_append]
                exact hown6
            case measure => simp [intOf]; omega
      · have HE1 := Lib.hid (HBAD.out hbd)
        clear hbd
        rcases hcase with c1 | ⟨c1, c2⟩ | ⟨c1, c2, c3⟩ | ⟨c1, c2, c3, c4⟩ | ⟨c1, c2, c3, c4, c5⟩ | ⟨c1, c2, c3, c4, c5, c6⟩ | ⟨c1, c2, c3, c4, c5, c6, c7, c8⟩
        all_goals
          go_wp2_with fail
          refine bodyPost_ret (v := .tuple #[.pointer none, .int .i64 1]) (by simp [results, Try.results23, go_sem]) rfl ⟨hb.alloc hb.size _, .inl ⟨by rw [HE1.out]; decide, by rw [HE1.out]⟩⟩
    · obtain rfl : k = n := by omega
      have hE0 : newErr ends ds = 0 := by
        rw [HE.out, if_neg]
        rintro ⟨d, hd, hbd⟩
        refine HG.out d ?_ hbd
        rw [List.take_of_length_le (by have := HN.out; omega)]
        exact hd
      have HE0 := Lib.hid hE0
      clear hE0
      go_wp2_with fail
      refine bodyPost_ret (v := .tuple #[.pointer (some ⟨g, 0, none⟩), .int .i64 0]) (by simp [results, Try.results23, go_sem]) rfl ⟨hb, .inr ⟨HE0.out, g, rfl, ?_⟩⟩
      have hn' := HN.out
      subst hn'
      have hgo : ∀ d ∈ ds, ¬ d.bad := fun d hd => HG.out d (by rw [List.take_of_length_le (Nat.le_refl _)]; exact hd)
      rw [List.take_of_length_le (Nat.le_refl _)] at hown
      have hcap : ds.length ≤ dc ∧ dc ≤ maxLen := by
        rcases hown.2 with ⟨hv, h0⟩ | ⟨g', cap, cur, hv, _, _, h1, h2, _⟩
        · injection hv with _ _ h3; subst h3; rw [h0]; exact ⟨Nat.le_refl _, Nat.zero_le _⟩
        · injection hv with _ _ h3; subst h3; exact ⟨h1, h2⟩
      exact ⟨⟨DA, dc, none, 0, hbk, hcap.1, hcap.2, Tr.of_own hown, Sh.nil_ _ _ _ _⟩, hgw, hgo, by omega, fun f hf => by cases hf⟩
end Go.Proofs.Ytlgcdcjfobfoiaa
