/-
  The walk of the law LinkAll. Conditions: the deeds can be read.
-/
import Derived.Test.YtlgcdcjfobfoiaaLl4
namespace Go.Proofs.Ytlgcdcjfobfoiaa
open Go.RowKit
set_option maxRecDepth 100000

theorem eq3 (d : Nat) (N : Int) (w : World) : Sem.run Try.prog (Op.equalIn (d + 1) 3 (.int .i64 N) (.int .i64 N)) w = .ok true w := by
  unfold Op.equalIn
  simp [run_underlying Try.underlying3, go_sem]
theorem eq83 (N : Int) (w : World) : Sem.run Try.prog (Op.equalIn 10000 83 (.agg #[.int .i64 N, .int .i64 N]) (.agg #[.int .i64 N, .int .i64 N])) w = .ok true w := by
  have h3 := eq3 9998 N
  rw [show (9998 + 1 : Nat) = 9999 from rfl] at h3
  have ha : ∀ w, Sem.run Try.prog (isAgg 3) w = .ok false w := fun w => by simp [isAgg, run_underlying Try.underlying3, go_sem]
  rw [show (10000 : Nat) = 9999 + 1 from rfl]
  unfold Op.equalIn
  simp [run_underlying Try.underlying83, go_sem, List.range', ha, h3]
section
variable {P : Program} {ops : Array Oper} {Q : Exit → Act → World → Prop} {md : Region.Mode} {S : World → Prop}
theorem wpAnyH_skip {i : Nat} {oi : Oper} {d : Option Tmp} {fuel : Nat} {listed : Array Bool} {a : Act} {w : World} (hi : ops[i]? = some oi) (hd : oi.dst = d)
    (hs : Region.noSelect ops = true) (hf : Region.free md ops listed i = true) (hr : (Region.ready md ops listed).contains i = true)
    (hQ : ∀ c a w, Q (.panic c) (a.put d undef) w → Q (.panic c) a w) (hw : Region.wanted oi (yielded ops a.tmps) = false) (hS : S w)
    (h : wpAnyH P md ops Q S fuel (listed.setIfInBounds i true) (a.put d undef) w) : wpAnyH P md ops Q S (fuel + 1) listed a w := by
  subst hd
  exact wpAnyH_take hi hs hf hr hQ (Or.inr ⟨hw, rfl⟩) hS h
theorem wpAnyH_val {i : Nat} {oi : Oper} {d : Option Tmp} {v : Value} {fuel : Nat} {listed : Array Bool} {a : Act} {w : World} (hi : ops[i]? = some oi) (hd : oi.dst = d)
    (hs : Region.noSelect ops = true) (hf : Region.free md ops listed i = true) (hr : (Region.ready md ops listed).contains i = true)
    (hQ : ∀ c a w, Q (.panic c) (a.put d v) w → Q (.panic c) a w) (hy : YieldsIf P ops S oi v a) (hS : S w)
    (h : wpAnyH P md ops Q S fuel (listed.setIfInBounds i true) (a.put d v) w) : wpAnyH P md ops Q S (fuel + 1) listed a w := by
  subst hd
  exact wpAnyH_take hi hs hf hr hQ hy hS h
end
section
variable {w0 wr : World} {g gE gC : Nat} {now sent : Int} {ds : List Dd} {fs : List Fl} {m m' f n c gs : Nat → Nat} {F : Nat → List Nat} {G : Nat → List (List Nat)}
theorem LaW.cm (h : LaW w0 wr g gE gC now sent ds fs m f n c gs F G) (hm : ∀ i, i < 2 → m i = m' i) : LaW w0 wr g gE gC now sent ds fs m' f n c gs F G :=
  ⟨h.net, fun k hk => by rw [← hm k hk]; exact h.ends k hk, h.dis, h.be, h.bc, h.hC, h.bl⟩
theorem LaW.cG {G' : Nat → List (List Nat)} (h : LaW w0 wr g gE gC now sent ds fs m f n c gs F G) (hG : ∀ i, i < 2 → G i = G' i) : LaW w0 wr g gE gC now sent ds fs m f n c gs F G' :=
  ⟨h.net, fun k hk => by rw [← hG k hk]; exact h.ends k hk, h.dis, h.be, h.bc, h.hC, h.bl⟩
theorem La.cm (h : La m f n) (hm : ∀ i, i < 2 → m i = m' i) (hb : ∀ i, m' i ≤ 31) : La m' f n :=
  ⟨h.fn, fun k hk => by rw [← hm (1 - k) (by omega)]; exact h.nm k hk, hb⟩
theorem FlG.cm {x : Fl} (h : FlG m n x) (hm : ∀ i, i < 2 → m i = m' i) : FlG m' n x := by
  obtain ⟨k, nx, f0, c0, h1, h2, h3, h4, h5, h6, h7, h8⟩ := h.ex
  exact ⟨k, nx, f0, c0, h1, h2, h3, h4, h5, h6, by rw [← hm k h1]; exact h7, h8⟩
theorem FlI.cm {k : Nat} (h : FlI ds k m n fs) (hm : ∀ i, i < 2 → m i = m' i) : FlI ds k m' n fs := ⟨fun x hx => (h.g x hx).cm hm, h.srt, h.len⟩
end
theorem mS_two (N s : Nat) : ∀ i, i < 2 → mS N s 2 i = (fun _ => min N (s + 1)) i := fun i hi => by unfold mS; rw [if_pos hi]
theorem mS_stay (N s k : Nat) (h : N ≤ s) : mS N s k = mS N s (k + 1) := by funext i; unfold mS; split <;> split <;> omega
theorem bytesZ (l : List Nat) : (toZ l).map (Value.int .u8) = bytesV l := by unfold toZ bytesV; rw [List.map_map]; rfl
/-- A new message of two bytes. -/
theorem ms2_ok (w : World) (a b : Nat) (ha : a < 256) (hb : b < 256) : MsOk (w.alloc (.cells #[.int .u8 a, .int .u8 b] 5)) ⟨some ⟨w.heap.size, 0, none⟩, 2, 2, [a, b]⟩ :=
  ⟨⟨rfl, fun _ => ⟨w.heap.size, 0, _, rfl, Bk.new w 5 _, fun j u hu => by
      rw [Nat.zero_add, ← Array.getElem?_toList]
      exact hu⟩⟩, rfl, Nat.le_refl _, (by show 2 ≤ 9223372036854775807; omega), fun x hx => by
      simp only [List.mem_cons, List.not_mem_nil, or_false] at hx
      omega⟩
/-- What the message does to the list that waits. -/
theorem msgs_push (k c f : Nat) (h : f ≤ c) : (msgs k c).drop f ++ [[c, k]] = (msgs k (c + 1)).drop f := by
  rw [msgs_succ, List.drop_append, msgs_length, Nat.sub_eq_zero_of_le h, List.drop_zero]
/-- End k has sent. -/
theorem LaW.sent {w0 wr w' : World} {g gE gC N s k : Nat} {now sent : Int} {ds : List Dd} {fs : List Fl} {f n c gs : Nat → Nat} {F : Nat → List Nat} (h : LaW w0 wr g gE gC now sent ds fs (mS N s k) f n c gs F (fun _ => [])) (hk : k < 2) (hs : s < N) (hf : f k ≤ s)
    {F' : List Nat} (he : EndS w' w0.heap.size F' (gs k) (f k) (n k) ((msgs k (mS N s k k)).drop (f k) ++ [[s, k]]) []) (hq : Fq (F k) wr w') (hsub : SubF (F k) F' wr.heap.size) :
    LaW w0 w' g gE gC now sent ds fs (mS N s (k + 1)) f n c gs (fun i => if i = k then F' else F i) (fun _ => []) := by
  rw [mS_at, Nat.min_eq_right (by omega), msgs_push k s (f k) hf] at he
  have h2 := h.fq hk (mk := s + 1) hq hsub he
  rw [show s + 1 = min N (s + 1) by omega, mS_upd, upd_id, upd_id] at h2
  exact h2.cG fun i _ => by simp
theorem LaW.start {w0 w2 : World} {g : Nat} {ds : List Dd} (hN : NetSt w2 w0.heap.size g 2 0 0 ds []) (hb : Below w0.heap.size w0 w2) :
    LaW w0 ((((w2.alloc (.cells #[.int .i64 0, .slice none 0 0, .int .i64 0, .slice none 0 0] 123)).alloc (.cells #[.int .i64 0, .slice none 0 0, .int .i64 0, .slice none 0 0] 123)).alloc (.cells #[.pointer (some ⟨w2.heap.size, 0, none⟩), .pointer (some ⟨w2.heap.size + 1, 0, none⟩)] 70)).alloc (.cells #[.int .i64 0, .int .i64 0] 83))
      g (w2.heap.size + 1 + 1) (w2.heap.size + 1 + 1 + 1) 0 0 ds [] (fun _ => 0) (fun _ => 0) (fun _ => 0) (fun _ => 0) (fun k => if k = 0 then w2.heap.size else w2.heap.size + 1) (fun k => if k = 0 then [w2.heap.size] else [w2.heap.size + 1]) (fun _ => []) := by
  have hs := hb.size
  have e0 := EndS.new w2 w0.heap.size hs
  have b1 := (Below.refl (w2.alloc (.cells #[.int .i64 0, .slice none 0 0, .int .i64 0, .slice none 0 0] 123)).heap.size (w2.alloc (.cells #[.int .i64 0, .slice none 0 0, .int .i64 0, .slice none 0 0] 123))).alloc (Nat.le_refl _) (.cells #[.int .i64 0, .slice none 0 0, .int .i64 0, .slice none 0 0] 123)
  have e1 := EndS.new (w2.alloc (.cells #[.int .i64 0, .slice none 0 0, .int .i64 0, .slice none 0 0] 123)) w0.heap.size (by simp; omega)
  have z1 : (w2.alloc (.cells #[.int .i64 0, .slice none 0 0, .int .i64 0, .slice none 0 0] 123)).heap.size = w2.heap.size + 1 := by simp
  rw [z1] at e1
  generalize hA : (w2.alloc (.cells #[.int .i64 0, .slice none 0 0, .int .i64 0, .slice none 0 0] 123)).alloc (.cells #[.int .i64 0, .slice none 0 0, .int .i64 0, .slice none 0 0] 123) = wa at *
  have za : wa.heap.size = w2.heap.size + 1 + 1 := by rw [← hA]; simp
  have ba : Below w2.heap.size w2 wa := by rw [← hA]; exact ((Below.refl _ _).alloc (Nat.le_refl _) _).alloc (by simp) _
  have hbe := Bk.new wa 70 #[.pointer (some ⟨w2.heap.size, 0, none⟩), .pointer (some ⟨w2.heap.size + 1, 0, none⟩)]
  rw [za] at hbe
  have bb := (Below.refl wa.heap.size wa).alloc (Nat.le_refl _) (.cells #[.pointer (some ⟨w2.heap.size, 0, none⟩), .pointer (some ⟨w2.heap.size + 1, 0, none⟩)] 70)
  have zb : (wa.alloc (.cells #[.pointer (some ⟨w2.heap.size, 0, none⟩), .pointer (some ⟨w2.heap.size + 1, 0, none⟩)] 70)).heap.size = w2.heap.size + 1 + 1 + 1 := by simp [za]
  generalize wa.alloc (.cells #[.pointer (some ⟨w2.heap.size, 0, none⟩), .pointer (some ⟨w2.heap.size + 1, 0, none⟩)] 70) = wb at *
  have hbc := Bk.new wb 83 #[.int .i64 0, .int .i64 0]
  rw [zb] at hbc
  have bc := (Below.refl wb.heap.size wb).alloc (Nat.le_refl _) (.cells #[.int .i64 0, .int .i64 0] 83)
  have b2c : Below w2.heap.size w2 (wb.alloc (.cells #[.int .i64 0, .int .i64 0] 83)) := ba.trans ((bb.mono (by omega)).trans (bc.mono (by omega)))
  have bac : Below wa.heap.size wa (wb.alloc (.cells #[.int .i64 0, .int .i64 0] 83)) := bb.trans (bc.mono (by omega))
  refine ⟨hN.below b2c, fun k hk => ?_, fun j k hj hk hjk b hb1 hb2 => ?_, hbe.alloc _, hbc, by omega, hb.trans (b2c.mono hs)⟩
  · rcases (show k = 0 ∨ k = 1 by omega) with rfl | rfl
    · exact (e0.below b1).below bac
    · exact e1.below bac
  · rcases (show j = 0 ∧ k = 1 ∨ j = 1 ∧ k = 0 by omega) with ⟨rfl, rfl⟩ | ⟨rfl, rfl⟩ <;> simp at hb1 hb2 <;> omega

/-! ### the packets of a step -/
theorem upd_upd (g : Nat → Nat) (k a b : Nat) : upd (upd g k a) k b = upd g k b := by funext i; unfold upd; split <;> rfl
theorem MsOk.keepT {w w' : World} {S : List TypeId} {m : Ms} (h : MsOk w m) (hk : KeepT S w w') (hS : 5 ∉ S) : MsOk w' m := ⟨h.tr.keepT hk hS, h.len, h.cap, h.cap2, h.lt⟩
theorem KeepT.trans {S : List TypeId} {a b c : World} (h : KeepT S a b) (k : KeepT S b c) : KeepT S a c := fun x t cs hb ht => k x t cs (h x t cs hb ht) ht
theorem pktB_lt' (k nx f0 c0 : Nat) (hk : k < 2) (h1 : nx ≤ 200) (h2 : f0 ≤ 200) (h3 : c0 ≤ 200) : ∀ b ∈ pkD k nx f0 c0, b < 256 := by
  refine pktB_lt nx f0 _ fun m hm => ?_
  obtain ⟨i, hi, rfl⟩ := msgs_mem (List.mem_of_mem_drop hm)
  intro b hb
  simp only [List.mem_cons, List.not_mem_nil, or_false] at hb
  omega
/-- What the packets up to the i-th have done. -/
structure PkI (ds : List Dd) (S M : Nat) (f n f2 n2 : Nat → Nat) (rest l : List Fl) (i : Nat) : Prop where
  la : La (fun _ => M) f2 n2
  fl : FlI ds S (fun _ => M) n2 rest
  g : ∀ x ∈ l, FlG (fun _ => M) n2 x
  ff : ∀ i, f i ≤ f2 i
  nn : ∀ i, n i ≤ n2 i
  eff : ∀ x ∈ l.take i, ∀ (k : Nat) (d : List Nat), x.fr = (k : Int) → x.dat = toZ d → EffD f2 n2 k d
theorem PkI.next {ds : List Dd} {S M : Nat} {f n f2 n2 : Nat → Nat} {rest l : List Fl} {i : Nat} {x : Fl} (h : PkI ds S M f n f2 n2 rest l i) (hx : l[i]? = some x) :
    ∃ k j nx f0 c0 : Nat, k < 2 ∧ j < 2 ∧ x.fr = (k : Int) ∧ x.to = (j : Int) ∧ x.dat = toZ (pkD k nx f0 c0) ∧ nx ≤ M ∧ f2 j ≤ M ∧ f0 ≤ n2 j ∧ f0 ≤ M ∧ c0 ≤ M ∧ n2 j ≤ M ∧ M ≤ 31 ∧
      PkI ds S M f n (upd f2 j (max (f2 j) nx)) (upd n2 j (max (n2 j) (f0 + min 8 (c0 - f0)))) rest l (i + 1) := by
  obtain ⟨k, nx, f0, c0, h1, h2, h3, h4, h5, h6, h7, h8⟩ := (h.g x (List.mem_of_getElem? hx)).ex
  have hn : nx ≤ M := Nat.le_trans h5 (h.la.nm k h1)
  have hf : f2 (1 - k) ≤ M := by
    have a := h.la.fn (1 - k) (by omega)
    have b : n2 (1 - (1 - k)) ≤ M := h.la.nm (1 - (1 - k)) (by omega)
    omega
  have hj : n2 (1 - k) ≤ M := h.la.nm (1 - k) (by omega)
  obtain ⟨a1, a2, a3, a4⟩ := la_one h.la h1 h5 h6 h7 h8
  refine ⟨k, 1 - k, nx, f0, c0, h1, by omega, h2, h3, h4, hn, hf, h6, Nat.le_trans h6 hj, h7, hj, h.la.big 0, a1, h.fl.mono (fun _ => Nat.le_refl _) a4, fun y hy => (h.g y hy).mono (fun _ => Nat.le_refl _) a4, fun i => Nat.le_trans (h.ff i) (a3 i), fun i => Nat.le_trans (h.nn i) (a4 i), fun y hy k2 d2 e1 e2 => ?_⟩
  rw [List.take_add_one, hx] at hy
  rcases List.mem_append.1 hy with hy | hy
  · exact (h.eff y hy k2 d2 e1 e2).mono a3 a4
  · have e : y = x := by simpa using hy
    subst e
    have ek : k2 = k := by rw [h2] at e1; omega
    rw [h4] at e2
    rw [ek, ← toZ_inj e2]
    exact a2
theorem PkI.prog {ds : List Dd} {S N s M L : Nat} {f n f2 n2 : Nat → Nat} {rest l : List Fl} (h : PkI ds S M f n f2 n2 rest l L) (hL : L = l.length) (hb : ∀ j, j < 2 → f j ≤ s ∧ f j ≤ 31 ∧ n j ≤ 31)
    (hp : bigD ds = false → Prog N (s - s0Z ds) f n) (hf : bigD ds = false → s0Z ds ≤ s → ∀ i : Nat, i < 2 → ∃ y ∈ l, y.fr = (i : Int) ∧ y.dat = toZ (pkD i (n i) (f i) N)) :
    bigD ds = false → Prog N (s + 1 - s0Z ds) f2 n2 := by
  intro hbd
  rcases Nat.lt_or_ge s (s0Z ds) with hs | hs
  · rw [show s + 1 - s0Z ds = 0 by omega]; exact Prog.zero _ _ _
  · rw [show s + 1 - s0Z ds = s - s0Z ds + 1 by omega]
    have he : ∀ i, i < 2 → EffD f2 n2 i (pkD i (n i) (f i) N) := fun i hi => by
      obtain ⟨y, hy, h1, h2⟩ := hf hbd hs i hi
      exact h.eff y (by rw [hL, List.take_length]; exact hy) i _ h1 h2
    exact (hp hbd).next (fun k hk => by have := hb k hk; omega) (he 0 (by omega)) (he 1 (by omega))

/-- The packets, what was got, the box. -/
structure LaB (wx : World) (hh L q : Nat) (PA A : Option Addr) (l : List Fl) (Gs : List Ms) (bx : Array Value) : Prop where
  pk : Tr wx 45 3 PA L (pkCs l)
  dat : ∀ x ∈ l, Tr wx 5 1 x.A x.n (x.dat.map (Value.int .u8)) ∧ x.n ≤ x.c ∧ x.c ≤ maxLen
  got : Tr wx 30 1 A q (msV Gs)
  ms : ∀ m ∈ Gs, MsOk wx m
  box : Bk wx hh 45 bx
theorem LaB.keepT {wx wy : World} {hh L q : Nat} {PA A : Option Addr} {l : List Fl} {Gs : List Ms} {bx : Array Value} {S : List TypeId} (h : LaB wx hh L q PA A l Gs bx) (hk : KeepT S wx wy) (hS : 45 ∉ S ∧ 5 ∉ S ∧ 30 ∉ S) : LaB wy hh L q PA A l Gs bx :=
  ⟨h.pk.keepT hk hS.1, fun x hx => ⟨(h.dat x hx).1.keepT hk hS.2.1, (h.dat x hx).2⟩, h.got.keepT hk hS.2.2, fun m hm => (h.ms m hm).keepT hk hS.2.1, hk _ _ _ h.box hS.1⟩
/-- The counter's store. -/
theorem LaW.countT {w0 wr : World} {g gE gC : Nat} {now sent : Int} {ds : List Dd} {fs : List Fl} {m f n c gs : Nat → Nat} {F : Nat → List Nat} {G : Nat → List (List Nat)} (h : LaW w0 wr g gE gC now sent ds fs m f n c gs F G) (k : Nat) (v : Value) : KeepT [83] wr (wr.setCell ⟨gC, k, none⟩ v) := fun b t cs hb ht => hb.far (fun e => by
    have e' : b = gC := e
    subst e'
    exact ht (by rw [Bk.same hb h.bc]; simp)) _
theorem got_at {Gs : List Ms} {a q k : Nat} (h : Gs.map Ms.dat = (List.range' a q).map fun i => [i, k]) : Gs.length = q ∧ ∀ i, i < q → ∃ m, Gs[i]? = some m ∧ m.dat = [a + i, k] := by
  have hl := congrArg List.length h
  simp only [List.length_map, List.length_range'] at hl
  refine ⟨hl, fun i hi => ?_⟩
  have hg := congrArg (fun x => x[i]?) h
  simp only [List.getElem?_map] at hg
  rw [List.getElem?_eq_getElem (by omega : i < Gs.length), List.getElem?_range' (by omega)] at hg
  simp only [Option.map_some, Option.some.injEq, Nat.one_mul] at hg
  exact ⟨_, List.getElem?_eq_getElem (by omega), hg⟩

set_option maxHeartbeats 8000000 in
theorem linkAll_walk (A : Option Addr) (n c : Nat) (z : Int) (ds : List Dd) (w : World) (hr : Rd w w.heap.size 3 A n (ddCs ds)) (hn : n = ds.length) (hnc : n ≤ c) (hc : c ≤ maxLen) :
    Calls Try.prog 11 #[.slice A n c, .int .i64 z] w fun e w' => e = .returned (.bool true) ∧ Below w.heap.size w w' := by
  have hnew := netNew_any 2 A n c w.heap.size ds w hr hn hnc hc (Nat.le_refl _)
  have HNEW := Lib.hid hnew
  obtain ⟨N, hN, hN31⟩ := and31 z
  have HNN := Lib.hid hN
  have HR := Lib.hid hr
  have HN := Lib.hid hn
  clear hnew hN hr hn
  go_enter Try.func11, Try.ntmps11
  go_wp2_with fail
  refine HNEW.out.mono ?_
  rintro e w1 ⟨hb1, ⟨h0, rfl⟩ | ⟨_, g, rfl, hN⟩⟩
  · have hne : (newErr 2 ds != 0) = true := by simpa using h0
    clear h0 HNEW
    go_wp2_with fail
    refine (arrives_any w1).mono ?_
    rintro e w2 ⟨rfl, hb2⟩
    go_wp2_with fail
    refine (arrives_any w2).mono ?_
    rintro e w3 ⟨rfl, hb3⟩
    go_wp2_with fail
    go_ret
    exact ⟨rfl, hb1.trans ((hb2.mono hb1.size).trans (hb3.mono (Nat.le_trans hb1.size hb2.size)))⟩
  go_wp2_with fail
  refine (arrives_any w1).mono ?_
  rintro e w2 ⟨rfl, hb2⟩
  have hN2 := hN.below hb2
  have hbb2 : Below w.heap.size w w2 := hb1.trans (hb2.mono hb1.size)
  have hnd : n ≤ 1000 := by have := HN.out; have := hN2.few; omega
  have HN2 := Lib.hid hN2
  have HB2 := Lib.hid hbb2
  clear hN hb1 hb2 HNEW hN2 hbb2
  go_wp2_with fail
  refine (linkNew_any w2).mono ?_
  rintro e w3 ⟨rfl, rfl⟩
  go_wp2_with fail
  refine (linkNew_any _).mono ?_
  rintro e w3 ⟨rfl, rfl⟩
  go_wp2_with fail
  rw [HNN.out]
  have hL0 := LaW.start HN2.out HB2.out
  generalize (((w2.alloc (.cells #[.int .i64 0, .slice none 0 0, .int .i64 0, .slice none 0 0] 123)).alloc (.cells #[.int .i64 0, .slice none 0 0, .int .i64 0, .slice none 0 0] 123)).alloc (.cells #[.pointer (some ⟨w2.heap.size, 0, none⟩), .pointer (some ⟨w2.heap.size + 1, 0, none⟩)] 70)).alloc (.cells #[.int .i64 0, .int .i64 0] 83) = wz at *
  obtain ⟨gs, hgs⟩ : ∃ gs : Nat → Nat, gs = fun k => if k = 0 then w2.heap.size else w2.heap.size + 1 := ⟨_, rfl⟩
  obtain ⟨F0, hF0⟩ : ∃ F0 : Nat → List Nat, F0 = fun k => if k = 0 then [w2.heap.size] else [w2.heap.size + 1] := ⟨_, rfl⟩
  rw [← hgs, ← hF0] at hL0
  have HL0 := Lib.hid hL0
  have e0 : w2.heap.size = gs 0 := by rw [hgs]; rfl
  have e1 : w2.heap.size + 1 = gs 1 := by rw [hgs]; rfl
  rw [e1, e0]
  obtain ⟨gE, hgE⟩ : ∃ gE, gE = gs 1 + 1 := ⟨_, rfl⟩
  obtain ⟨gC, hgC⟩ : ∃ gC, gC = gs 1 + 1 + 1 := ⟨_, rfl⟩
  rw [e1, ← hgE] at HL0
  rw [← hgE]
  clear HNN HN2 HB2 hL0 hgs hF0 e0 e1 hgC
  generalize gE + 1 = gC at *
  clear hgE
  go_loopw [9, 49] (fun lv iv wr => ∃ (k : Nat) (last : Int), k ≤ n ∧ iv = .int .i64 k ∧ lv = .int .i64 last ∧ 0 ≤ last ∧ last ≤ 399 ∧ Hid (lastZ (ds.take k) = last) ∧ Hid (LaW w wr g gE gC 0 0 ds [] (fun _ => 0) (fun _ => 0) (fun _ => 0) (fun _ => 0) gs F0 (fun _ => []))) (fun _ iv _ => n - (intOf iv).toNat)
  case atStart => exact ⟨0, 0, Nat.zero_le _, rfl, rfl, by omega, by omega, Lib.hid (by simp [lastZ]), HL0⟩
  case round =>
    obtain ⟨k, last, hk, rfl, rfl, hl0, hl1, HLZ, HLW⟩ := hrel
    clear HL0
    by_cases hlt : k < n
    · obtain ⟨d, hd⟩ : ∃ d, ds[k]? = some d := ⟨_, List.getElem?_eq_getElem (by have := HN.out; omega)⟩
      obtain ⟨b, o, rfl, hbB, q0, q1, q2⟩ := (HR.out.below HLW.out.bl).dd k d hd hlt
      obtain ⟨p1, p2, p3, p4, p5, p6⟩ := good_n (HLW.out.net.good d (List.mem_of_getElem? hd))
      have hst := lastZ_step ds k d hd
      have hbd := lastZ_bd (ds.take (k + 1))
      rw [HLZ.out] at hst
      have HLB := Lib.hid (HLW.out.below ((Below.refl wr.heap.size wr).alloc (Nat.le_refl _) (.cells #[.int .i64 d.kind, .int .i64 d.pk, .int .i64 d.n] 47)))
      generalize hl2 : lastZ (ds.take (k + 1)) = l2 at *
      have HL2 := Lib.hid hl2
      clear hl2
      have HST := Lib.hid hst
      obtain ⟨hb0, hb1, -⟩ := hbd
      have hkz : (k : Int) < n := by omega
      clear hst HLZ HLW hd
      by_cases h4 : d.pk < 400
      · have he : l2 = max last d.pk := by rw [HST.out, if_pos h4]
        subst he
        go_wp2_with fail
        go_roundw
        case rel => exact ⟨k + 1, _, by omega, by go_num, rfl, hb0, hb1, HL2, HLB⟩
        case measure => simp [intOf]; omega
      · have he : l2 = last := by rw [HST.out, if_neg h4]
        subst he
        go_wp2_with fail
        go_roundw
        case rel => exact ⟨k + 1, _, by omega, by go_num, rfl, hb0, hb1, HL2, HLB⟩
        case measure => simp [intOf]; omega
    · obtain rfl : k = n := by omega
      have hla : lastZ ds = last := by
        have := HLZ.out
        rwa [List.take_of_length_le (by have := HN.out; omega)] at this
      obtain ⟨s0, hs0⟩ : ∃ s0, s0 = s0Z ds := ⟨_, rfl⟩
      have hT8 : (s0 : Int) + 8 ≤ last + 60 * (1 + (k : Int)) + 40 := by
        rw [hs0, ← hla]
        unfold s0Z
        have := (lastZ_bd ds).1
        omega
      have HS0 := Lib.hid hs0
      clear HLZ hla hs0
      have hN31' : (N : Int) ≤ 31 := by omega
      have HLI : Hid (La (fun _ => min N 0) (fun _ => 0) (fun _ => 0) ∧ FlI ds (2 * 0) (fun _ => min N 0) (fun _ => 0) [] ∧ (bigD ds = false → Prog N (0 - s0Z ds) (fun _ => 0) (fun _ => 0))) := Lib.hid ⟨⟨fun _ _ => Nat.le_refl _, fun _ _ => Nat.zero_le _, fun _ => by omega⟩, FlI.nil_ _ _ _, fun _ => by rw [Nat.zero_sub]; exact Prog.zero _ _ _⟩
      have HLW0 : Hid (LaW w wr g gE gC (0 : Nat) (2 * 0 : Nat) ds [] (fun _ => min N 0) (fun _ => 0) (fun _ => 0) (fun _ => 0) gs F0 (fun _ => [])) := Lib.hid (by
        have h := HLW.out
        simpa using h)
      clear HLW
      go_wp2_with fail
      go_loopw [68] (fun sv wr => ∃ (s : Nat) (fs : List Fl) (f nn : Nat → Nat) (F : Nat → List Nat), s ≤ 901 ∧ (s : Int) ≤ last + 60 * (1 + (k : Int)) + 40 ∧ sv = .int .i64 s ∧ Hid (LaW w wr g gE gC s (2 * s : Nat) ds fs (fun _ => min N s) f nn nn gs F (fun _ => [])) ∧ Hid (La (fun _ => min N s) f nn ∧ FlI ds (2 * s) (fun _ => min N s) nn fs ∧ (bigD ds = false → Prog N (s - s0Z ds) f nn))) (fun sv _ => (last + 60 * (1 + (k : Int)) + 40 - intOf sv).toNat)
      case atStart => exact ⟨0, [], _, _, F0, by omega, by omega, rfl, HLW0, HLI⟩
      case round =>
        obtain ⟨s, fs, f, nn, F, hs901, hsT, rfl, HLW, HLI'⟩ := hrel
        clear HLI HLW0
        have HLI := HLI'
        clear HLI'
        by_cases hlt : (s : Int) < last + 60 * (1 + (k : Int)) + 40
        · by_cases h900 : 900 < (s : Int)
          · go_wp2_with fail
            go_ret
            exact ⟨rfl, HLW.out.bl⟩
          · have hs9 : s ≤ 900 := by omega
            have HLA0 : Hid (LaW w wr g gE gC s (2 * s + 0 : Nat) ds fs (mS N s 0) f nn nn gs F (fun _ => [])) := Lib.hid (by rw [mS_zero]; exact HLW.out)
            have HLI0 : Hid (La (mS N s 0) f nn ∧ FlI ds (2 * s + 0) (mS N s 0) nn fs ∧ (bigD ds = false → s0Z ds ≤ s → ∀ i, i < 0 → Fresh fs s i (pkD i (nn i) (f i) N))) := Lib.hid (by rw [mS_zero]; exact ⟨HLI.out.1, HLI.out.2.1, fun _ _ i hi => by omega⟩)
            have HPR := Lib.hid HLI.out.2.2
            have hfN : ∀ j, j < 2 → f j ≤ s ∧ f j ≤ 31 ∧ nn j ≤ 31 := fun j hj => by
              have h1 := HLI.out.1.fn j hj
              have h2 : nn (1 - j) ≤ min N s := HLI.out.1.nm (1 - j) (by omega)
              have h3 : nn j ≤ min N s := HLI.out.1.nm j hj
              omega
            have HFN := Lib.hid hfN
            clear HLW HLI hfN
            go_wp2_with fail
            go_loopw [75] (fun kv wr => ∃ (j : Nat) (fs : List Fl) (F : Nat → List Nat), j ≤ 2 ∧ kv = .int .i64 j ∧ Hid (LaW w wr g gE gC s (2 * s + j : Nat) ds fs (mS N s j) f nn nn gs F (fun _ => [])) ∧ Hid (La (mS N s j) f nn ∧ FlI ds (2 * s + j) (mS N s j) nn fs ∧ (bigD ds = false → s0Z ds ≤ s → ∀ i, i < j → Fresh fs s i (pkD i (nn i) (f i) N)))) (fun kv _ => 2 - (intOf kv).toNat)
            case atStart => exact ⟨0, fs, F, by omega, rfl, HLA0, HLI0⟩
            case round =>
              clear HLA0 HLI0
              obtain ⟨j, fs, F, hj2, rfl, HLA, HLI⟩ := hrel
              by_cases hj : j < 2
              · have hjz : (j : Int) < 2 := by omega
                have hce := HLA.out.e_at hj
                obtain ⟨gk, hgk⟩ : ∃ gk, gk = gs j := ⟨_, rfl⟩
                rw [← hgk] at hce
                have HGK := Lib.hid hgk
                clear hgk
                by_cases hsN : s < N
                · have hsNz : (s : Int) < N := by omega
                  have hsend := send_any ⟨some ⟨wr.heap.size, 0, none⟩, 2, 2, [s, j]⟩ (wr.alloc (.cells #[.int .u8 s, .int .u8 j] 5)) (by show 2 ≤ 1000; omega) (ms2_ok wr s j (by omega) (by omega)) (by rw [List.length_drop, msgs_length, mS_at]; omega) (by have := HLA.out.bl.size; simp; omega) ((HLA.out.below ((Below.refl _ wr).alloc (Nat.le_refl _) (.cells #[.int .u8 s, .int .u8 j] 5))).ends j hj)
                  rw [← HGK.out] at hsend
                  have HSEND := Lib.hid hsend
                  clear hsend
                  go_wp2_with fail
                  refine HSEND.out.mono ?_
                  rintro e w5 ⟨F5, rfl, hE5, hs5, hq5⟩
                  rw [HGK.out] at hE5
                  obtain ⟨F6, HL5⟩ : ∃ F6, Hid (LaW w w5 g gE gC s (2 * s + j : Nat) ds fs (mS N s (j + 1)) f nn nn gs F6 (fun _ => [])) :=
                    ⟨_, Lib.hid ((HLA.out.below ((Below.refl _ wr).alloc (Nat.le_refl _) (.cells #[.int .u8 s, .int .u8 j] 5))).sent hj hsN (HFN.out j hj).1 hE5 hq5 hs5)⟩
                  clear hE5 hs5 hq5 HSEND
                  have hms : mS N s (j + 1) j = min N (s + 1) := by unfold mS; rw [if_pos (by omega)]
                  obtain ⟨D, hD⟩ : ∃ D, D = pkD j (nn j) (f j) (min N (s + 1)) := ⟨_, rfl⟩
                  have hDl := pkD_len j (nn j) (f j) (min N (s + 1))
                  rw [← hD] at hDl
                  have hout := out_any w5 (HL5.out.ends j hj) (fun x hx => by
                    obtain ⟨i, _, rfl⟩ := msgs_mem (List.mem_of_mem_drop hx)
                    simp) (by have := (HFN.out j hj).2.1; omega) (by have := (HFN.out j hj).2.2; omega)
                  rw [hms, show pktB (nn j) (f j) ((msgs j (min N (s + 1))).drop (f j)) = D from hD.symm, ← HGK.out] at hout
                  have HOUT := Lib.hid hout
                  have HD := Lib.hid hD
                  obtain ⟨dl, hdl⟩ : ∃ dl, dl = D.length := ⟨_, rfl⟩
                  rw [← hdl] at HOUT hDl
                  have HDL := Lib.hid hdl
                  obtain ⟨hDl1, hDl2⟩ := hDl
                  clear hout hms hD hdl
                  go_wp2_with fail
                  refine HOUT.out.mono ?_
                  rintro e w6 ⟨A6, c6, rfl, hown6, hb6⟩
                  have hL6 := HL5.out.below hb6
                  have hcap6 : dl ≤ c6 ∧ c6 ≤ maxLen := by
                    rcases hown6.2 with ⟨hv, _⟩ | ⟨g', cap, cur, hv, _, _, h1, h2, _⟩
                    · injection hv; omega
                    · injection hv with _ _ h3; subst h3; exact ⟨h1, h2⟩
                  have hse : sendErr 2 ((2 * s + j : Nat) : Int) (j : Int) (1 - (j : Int)) dl = 0 := by
                    unfold sendErr
                    rw [if_neg (by omega), if_neg (by omega), if_neg (by omega)]
                  have hsn := netSend_any w.heap.size g 2 s (2 * s + j : Nat) j (1 - (j : Int)) A6 dl c6 (toZ D) ds fs w6 hL6.net hcap6.1 hcap6.2 (by rw [bytesZ]; exact Tr.of_own hown6) hse (by omega) (by omega) (by omega) (by omega) (by have := HLI.out.2.1.le (by omega) HLA.out.net.few; omega) hL6.bl.size
                  have HSN := Lib.hid hsn
                  have HL6 := Lib.hid hL6
                  have hc6 : dl ≤ c6 := hcap6.1
                  clear hsn hL6 hse hown6 hb6 HOUT hcap6
                  go_wp2_with fail
                  refine HSN.out.mono ?_
                  rintro e w7 ⟨rfl, fs7, fl7, hA7, hk7, hN7, hK7⟩
                  rw [HD.out, show (1 - (j : Int)) = ((1 - j : Nat) : Int) by omega] at hk7
                  rw [show ((2 * s + j : Nat) : Int) + 1 = ((2 * s + (j + 1) : Nat) : Int) by omega] at hN7
                  have HL7 := Lib.hid (HL6.out.kq hK7 hN7)
                  have hfn := HFN.out j hj
                  have hlaj := HLI.out.1
                  have hfm : f j ≤ min N (s + 1) := by
                    have h1 := hlaj.fn j hj
                    have h2 := hlaj.nm (1 - j) (by omega)
                    rw [show 1 - (1 - j) = j by omega, mS_at] at h2
                    omega
                  have hfl7 := (HLI.out.2.1.mono (mS_le N s j) (fun _ => Nat.le_refl _)).send hA7 hj hk7 (Nat.le_refl _) (hlaj.fn j hj) (by unfold mS; rw [if_pos (by omega)]; exact Nat.le_refl _) hfm
                  have HLI7 : Hid (La (mS N s (j + 1)) f nn ∧ FlI ds (2 * s + (j + 1)) (mS N s (j + 1)) nn fs7 ∧ (bigD ds = false → s0Z ds ≤ s → ∀ i, i < j + 1 → Fresh fs7 s i (pkD i (nn i) (f i) N))) :=
                    Lib.hid ⟨hlaj.mono (mS_le N s j) (mS_big N s _ hN31), hfl7, fun hb h0 i hi => by
                      rcases Nat.lt_or_ge i j with h1 | h1
                      · exact (HLI.out.2.2 hb h0 i h1).adds hA7
                      · obtain rfl : i = j := by omega
                        have h32 : 32 ≤ s := by unfold s0Z at h0; omega
                        rw [show min N (s + 1) = N by omega] at hk7
                        exact Fresh.new hA7 hk7 (s0Z_clean ds hb s i h0)⟩
                  clear hA7 hk7 hN7 hK7 hfl7 hlaj HLI HLA HL5 HL6 HSN
                  go_wp2_with fail
                  go_roundw
                  case rel => exact ⟨j + 1, fs7, F6, by omega, by go_num, HL7, HLI7⟩
                  case measure => simp [intOf]; omega
                · have hsNz : ¬ (s : Int) < N := by omega
                  obtain ⟨w5, F6, HL5, hw5⟩ : ∃ w5 F6, Hid (LaW w w5 g gE gC s (2 * s + j : Nat) ds fs (mS N s (j + 1)) f nn nn gs F6 (fun _ => [])) ∧ w5 = wr :=
                    ⟨wr, F, Lib.hid (by rw [← mS_stay N s j (by omega)]; exact HLA.out), rfl⟩
                  subst hw5
                  have hms : mS N s (j + 1) j = min N (s + 1) := by unfold mS; rw [if_pos (by omega)]
                  obtain ⟨D, hD⟩ : ∃ D, D = pkD j (nn j) (f j) (min N (s + 1)) := ⟨_, rfl⟩
                  have hDl := pkD_len j (nn j) (f j) (min N (s + 1))
                  rw [← hD] at hDl
                  have hout := out_any w5 (HL5.out.ends j hj) (fun x hx => by
                    obtain ⟨i, _, rfl⟩ := msgs_mem (List.mem_of_mem_drop hx)
                    simp) (by have := (HFN.out j hj).2.1; omega) (by have := (HFN.out j hj).2.2; omega)
                  rw [hms, show pktB (nn j) (f j) ((msgs j (min N (s + 1))).drop (f j)) = D from hD.symm, ← HGK.out] at hout
                  have HOUT := Lib.hid hout
                  have HD := Lib.hid hD
                  obtain ⟨dl, hdl⟩ : ∃ dl, dl = D.length := ⟨_, rfl⟩
                  rw [← hdl] at HOUT hDl
                  have HDL := Lib.hid hdl
                  obtain ⟨hDl1, hDl2⟩ := hDl
                  clear hout hms hD hdl
                  go_wp2_with fail
                  refine HOUT.out.mono ?_
                  rintro e w6 ⟨A6, c6, rfl, hown6, hb6⟩
                  have hL6 := HL5.out.below hb6
                  have hcap6 : dl ≤ c6 ∧ c6 ≤ maxLen := by
                    rcases hown6.2 with ⟨hv, _⟩ | ⟨g', cap, cur, hv, _, _, h1, h2, _⟩
                    · injection hv; omega
                    · injection hv with _ _ h3; subst h3; exact ⟨h1, h2⟩
                  have hse : sendErr 2 ((2 * s + j : Nat) : Int) (j : Int) (1 - (j : Int)) dl = 0 := by
                    unfold sendErr
                    rw [if_neg (by omega), if_neg (by omega), if_neg (by omega)]
                  have hsn := netSend_any w.heap.size g 2 s (2 * s + j : Nat) j (1 - (j : Int)) A6 dl c6 (toZ D) ds fs w6 hL6.net hcap6.1 hcap6.2 (by rw [bytesZ]; exact Tr.of_own hown6) hse (by omega) (by omega) (by omega) (by omega) (by have := HLI.out.2.1.le (by omega) HLA.out.net.few; omega) hL6.bl.size
                  have HSN := Lib.hid hsn
                  have HL6 := Lib.hid hL6
                  have hc6 : dl ≤ c6 := hcap6.1
                  clear hsn hL6 hse hown6 hb6 HOUT hcap6
                  go_wp2_with fail
                  refine HSN.out.mono ?_
                  rintro e w7 ⟨rfl, fs7, fl7, hA7, hk7, hN7, hK7⟩
                  rw [HD.out, show (1 - (j : Int)) = ((1 - j : Nat) : Int) by omega] at hk7
                  rw [show ((2 * s + j : Nat) : Int) + 1 = ((2 * s + (j + 1) : Nat) : Int) by omega] at hN7
                  have HL7 := Lib.hid (HL6.out.kq hK7 hN7)
                  have hfn := HFN.out j hj
                  have hlaj := HLI.out.1
                  have hfm : f j ≤ min N (s + 1) := by
                    have h1 := hlaj.fn j hj
                    have h2 := hlaj.nm (1 - j) (by omega)
                    rw [show 1 - (1 - j) = j by omega, mS_at] at h2
                    omega
                  have hfl7 := (HLI.out.2.1.mono (mS_le N s j) (fun _ => Nat.le_refl _)).send hA7 hj hk7 (Nat.le_refl _) (hlaj.fn j hj) (by unfold mS; rw [if_pos (by omega)]; exact Nat.le_refl _) hfm
                  have HLI7 : Hid (La (mS N s (j + 1)) f nn ∧ FlI ds (2 * s + (j + 1)) (mS N s (j + 1)) nn fs7 ∧ (bigD ds = false → s0Z ds ≤ s → ∀ i, i < j + 1 → Fresh fs7 s i (pkD i (nn i) (f i) N))) :=
                    Lib.hid ⟨hlaj.mono (mS_le N s j) (mS_big N s _ hN31), hfl7, fun hb h0 i hi => by
                      rcases Nat.lt_or_ge i j with h1 | h1
                      · exact (HLI.out.2.2 hb h0 i h1).adds hA7
                      · obtain rfl : i = j := by omega
                        have h32 : 32 ≤ s := by unfold s0Z at h0; omega
                        rw [show min N (s + 1) = N by omega] at hk7
                        exact Fresh.new hA7 hk7 (s0Z_clean ds hb s i h0)⟩
                  clear hA7 hk7 hN7 hK7 hfl7 hlaj HLI HLA HL5 HL6 HSN
                  go_wp2_with fail
                  go_roundw
                  case rel => exact ⟨j + 1, fs7, F6, by omega, by go_num, HL7, HLI7⟩
                  case measure => simp [intOf]; omega
              · obtain rfl : j = 2 := by omega
                have HLB : Hid (LaW w wr g gE gC s (2 * s + 2 : Nat) ds fs (fun _ => min N (s + 1)) f nn nn gs F (fun _ => [])) := Lib.hid (HLA.out.cm (mS_two N s))
                have HLC : Hid (La (fun _ => min N (s + 1)) f nn ∧ FlI ds (2 * s + 2) (fun _ => min N (s + 1)) nn fs ∧ (bigD ds = false → s0Z ds ≤ s → ∀ i, i < 2 → Fresh fs s i (pkD i (nn i) (f i) N))) :=
                  Lib.hid ⟨HLI.out.1.cm (mS_two N s) (fun _ => by omega), HLI.out.2.1.cm (mS_two N s), HLI.out.2.2⟩
                clear HLA HLI
                have hst := netStep_any w.heap.size g 2 s (2 * s + 2 : Nat) ds fs wr HLB.out.net (by omega) (by omega) (by have := HLC.out.2.1.le (by omega) HLB.out.net.few; omega)
                have HST := Lib.hid hst
                clear hst
                go_wp2_with fail
                refine HST.out.mono ?_
                rintro e w4 ⟨l, rest, PA, pc, hf4, hle4, hgt4, rfl, hown4, hN4, hK4, hdat4⟩
                rw [show ((s : Int) + 1) = ((s + 1 : Nat) : Int) by omega] at hN4
                have hstp := HLC.out.2.1.step hf4
                have hl3 : l.length ≤ 3000 := by have := HLC.out.2.1.le (by omega) HLB.out.net.few; have := hstp.2.2; omega
                have hfresh : bigD ds = false → s0Z ds ≤ s → ∀ i : Nat, i < 2 → ∃ y ∈ l, y.fr = (i : Int) ∧ y.dat = toZ (pkD i (nn i) (f i) N) :=
                  fun hb h0 i hi => (HLC.out.2.2 hb h0 i hi).comes HLC.out.2.1.srt hf4 hgt4
                have HFR := Lib.hid hfresh
                have hT4 : Tr w4 45 3 PA l.length (pkCs l) := Tr.of_own hown4
                obtain ⟨L, hL⟩ : ∃ L, L = l.length := ⟨_, rfl⟩
                rw [← hL] at hT4 hl3
                rw [← hL]
                have HL4 : Hid (LaW w w4 g gE gC (s + 1 : Nat) (2 * s + 2 : Nat) ds rest (fun _ => min N (s + 1)) f nn nn gs F (fun _ => [])) := Lib.hid (HLB.out.kq hK4 hN4)
                have HI4 : Hid (PkI ds (2 * s + 2) (min N (s + 1)) f nn f nn rest l 0) :=
                  Lib.hid ⟨HLC.out.1, hstp.1, hstp.2.1, fun _ => Nat.le_refl _, fun _ => Nat.le_refl _, fun x hx => by cases hx⟩
                have HD4 : Hid (Tr w4 45 3 PA L (pkCs l) ∧ ∀ x ∈ l, Tr w4 5 1 x.A x.n (x.dat.map (Value.int .u8)) ∧ x.n ≤ x.c ∧ x.c ≤ maxLen) := Lib.hid ⟨hT4, hdat4⟩
                have HLL := Lib.hid hL
                clear hf4 hle4 hgt4 hown4 hN4 hK4 hdat4 hstp hfresh hT4 hL HLB HLC HST
                go_wp2_with fail
                go_loopw [107] (fun iv wr => ∃ (i : Nat) (f2 n2 : Nat → Nat) (F : Nat → List Nat), i ≤ L ∧ iv = .int .i64 i ∧ Hid (LaW w wr g gE gC (s + 1 : Nat) (2 * s + 2 : Nat) ds rest (fun _ => min N (s + 1)) f2 n2 n2 gs F (fun _ => [])) ∧ Hid (PkI ds (2 * s + 2) (min N (s + 1)) f nn f2 n2 rest l i) ∧ Hid (Tr wr 45 3 PA L (pkCs l) ∧ ∀ x ∈ l, Tr wr 5 1 x.A x.n (x.dat.map (Value.int .u8)) ∧ x.n ≤ x.c ∧ x.c ≤ maxLen)) (fun iv _ => L - (intOf iv).toNat)
                case atStart => exact ⟨0, f, nn, F, Nat.zero_le _, rfl, HL4, HI4, HD4⟩
                case round =>
                  clear HL4 HI4 HD4
                  obtain ⟨i, f2, n2, F, hiL, rfl, HLX, HIX, HDX⟩ := hrel
                  by_cases hil : i < L
                  · have hiz : (i : Int) < L := by omega
                    obtain ⟨x, hx⟩ : ∃ x, l[i]? = some x := ⟨_, List.getElem?_eq_getElem (by have := HLL.out; omega)⟩
                    obtain ⟨k', j, nx, f0, c0, hk', hj, e1, e2, e3, b1, b2, b3, b4, b5, b6, b7, hPN⟩ := HIX.out.next hx
                    have HPN := Lib.hid hPN
                    obtain ⟨hT, hnc1, hcm1⟩ := HDX.out.2 x (List.mem_of_getElem? hx)
                    rw [e3, bytesZ] at hT
                    have hDlt := pktB_lt' k' nx f0 c0 hk' (by omega) (by omega) (by omega)
                    obtain ⟨pb, po, rfl, _, q0, q1, q2⟩ := HDX.out.1.rd.pk i x hx hil
                    rw [e1] at q0
                    rw [e2] at q1
                    obtain ⟨xA, hxA⟩ : ∃ xA, xA = x.A := ⟨_, rfl⟩
                    obtain ⟨xn, hxn⟩ : ∃ xn, xn = x.n := ⟨_, rfl⟩
                    obtain ⟨xc, hxc⟩ : ∃ xc, xc = x.c := ⟨_, rfl⟩
                    rw [← hxA, ← hxn, ← hxc] at q2
                    rw [← hxA, ← hxn] at hT
                    rw [← hxn, ← hxc] at hnc1
                    rw [← hxc] at hcm1
                    have hcm2 : xc ≤ 9223372036854775807 := hcm1
                    have HT := Lib.hid hT
                    have HDLT := Lib.hid hDlt
                    clear hPN hcm1 hT hDlt e1 e2 e3 hx hxA hxn hxc HIX
                    obtain ⟨M, hM⟩ : ∃ M, M = min N (s + 1) := ⟨_, rfl⟩
                    rw [← hM] at b1 b2 b4 b5 b6 b7
                    have HM := Lib.hid hM
                    clear hM
                    go_wp2_with fail
                    have hB1 := (Below.refl wr.heap.size wr).alloc (Nat.le_refl _) (.cells #[.int .i64 (k' : Int), .int .i64 (j : Int), .slice xA xn xc] 45)
                    have hk1 := Bk.new wr 45 #[.int .i64 (k' : Int), .int .i64 (j : Int), .slice xA xn xc]
                    have hL1 := HLX.out.below hB1
                    have hT1 : Tr _ 5 1 xA xn (bytesV (pkD k' nx f0 c0)) := HT.out.below hB1
                    have hD1 : Tr (wr.alloc (.cells #[.int .i64 (k' : Int), .int .i64 (j : Int), .slice xA xn xc] 45)) 45 3 (some ⟨pb, po, none⟩) L (pkCs l) ∧ ∀ x ∈ l, Tr (wr.alloc (.cells #[.int .i64 (k' : Int), .int .i64 (j : Int), .slice xA xn xc] 45)) 5 1 x.A x.n (x.dat.map (Value.int .u8)) ∧ x.n ≤ x.c ∧ x.c ≤ maxLen :=
                      ⟨HDX.out.1.below hB1, fun x hx => ⟨(HDX.out.2 x hx).1.below hB1, (HDX.out.2 x hx).2⟩⟩
                    clear q0 q1 q2 HDX HLX HT hB1
                    generalize wr.alloc (.cells #[.int .i64 (k' : Int), .int .i64 (j : Int), .slice xA xn xc] 45) = W1 at *
                    generalize wr.heap.size = hh at *
                    have hBd : Below W1.heap.size W1 W1.drew := (Below.refl W1.heap.size W1).drew
                    have hL1d := hL1.below hBd
                    have hT1d : Tr W1.drew 5 1 xA xn (bytesV (pkD k' nx f0 c0)) := hT1.below hBd
                    have hk1d : Bk W1.drew hh 45 #[.int .i64 (k' : Int), .int .i64 (j : Int), .slice xA xn xc] := hk1.below hBd hk1.lt
                    obtain ⟨gk, hgk⟩ : ∃ gk, gk = gs j := ⟨_, rfl⟩
                    obtain ⟨vf, hvf⟩ : ∃ v, v = max (f2 j) nx := ⟨_, rfl⟩
                    obtain ⟨vn, hvn⟩ : ∃ v, v = max (n2 j) (f0 + min 8 (c0 - f0)) := ⟨_, rfl⟩
                    have hE1 : EndS W1.drew w.heap.size (F j) gk (f2 j) (n2 j) ((msgs j M).drop (f2 j)) [] := by rw [HM.out, hgk]; exact hL1d.ends j hj
                    have hin := in_any xA xn xc (pkD k' nx f0 c0) W1.drew hE1 hT1d.rd (by have := hT1d.1; rw [bytesV_length] at this; omega) hnc1 hcm2 HDLT.out hL1d.bl.size (by rw [List.length_drop, msgs_length]; omega) (by omega) (by simp)
                    rw [show pkD k' nx f0 c0 = pktB nx f0 ((msgs k' c0).drop f0) from rfl, in_pkt b1 b2 b3 (by omega) (by omega), ← hvf, ← hvn] at hin
                    have HIN : Hid (Calls Try.prog 48 #[.pointer (some ⟨gk, 0, none⟩), .slice xA xn xc] W1.drew fun e w' => ∃ F', e = .returned (.int .i64 0) ∧ EndS w' w.heap.size F' gk vf vn ((msgs j M).drop vf) ((List.range' (n2 j) (vn - n2 j)).map fun i => [i, k']) ∧ SubF (F j) F' W1.drew.heap.size ∧ Fq (F j) W1.drew w') := Lib.hid hin
                    rw [← hvf, ← hvn] at HPN
                    have s1 : W1.drew.cell? ⟨hh, 1, none⟩ = some (.int .i64 j) ∧ W1.drew.cell? ⟨hh, 2, none⟩ = some (.slice xA xn xc) ∧ W1.drew.cell? ⟨gE, j, none⟩ = some (.pointer (some ⟨gk, 0, none⟩)) := ⟨hk1d.cell 1, hk1d.cell 2, by rw [hgk]; exact hL1d.e_at hj⟩
                    have hjz : (j : Int) < 2 := by omega
                    have HL1d := Lib.hid hL1d
                    have HE1 := Lib.hid hE1
                    have HBX := Lib.hid hk1d
                    have HD1 : Hid (Tr W1.drew 45 3 (some ⟨pb, po, none⟩) L (pkCs l) ∧ ∀ x ∈ l, Tr W1.drew 5 1 x.A x.n (x.dat.map (Value.int .u8)) ∧ x.n ≤ x.c ∧ x.c ≤ maxLen) := Lib.hid ⟨hD1.1.below hBd, fun x hx => ⟨(hD1.2 x hx).1.below hBd, (hD1.2 x hx).2⟩⟩
                    have HGK := Lib.hid hgk
                    have hvn31 : vn ≤ 31 := by omega
                    have hvn0 : n2 j ≤ vn := by omega
                    have HVV := Lib.hid (And.intro hvf hvn)
                    clear hL1 hT1 hD1 hBd hL1d hT1d hk1d hk1 hgk hvf hvn hE1 hin b1 b2 b3 b4 b5
                    go_region_held3 (fun wx => wx.cell? ⟨hh, 1, none⟩ = some (.int .i64 j) ∧ wx.cell? ⟨hh, 2, none⟩ = some (.slice xA xn xc) ∧ wx.cell? ⟨gE, j, none⟩ = some (.pointer (some ⟨gk, 0, none⟩)))
                      (first | (with_reducible exact s1) | (with_reducible exact s2) | go_keep)
                      (first
                        | (go_at_call 48
                           (with_reducible refine HIN.out.mono ?_)
                           rintro e w2 ⟨F2, rfl, he2, hs2, hq2⟩
                           have hT2 := HE1.out.fqT hq2
                           have hbx2 := hT2 _ _ _ HBX.out (by decide)
                           have hbe2 := hT2 _ _ _ HL1d.out.be (by decide)
                           have s2 : w2.cell? ⟨hh, 1, none⟩ = some (.int .i64 j) ∧ w2.cell? ⟨hh, 2, none⟩ = some (.slice xA xn xc) ∧ w2.cell? ⟨gE, j, none⟩ = some (.pointer (some ⟨gk, 0, none⟩)) := ⟨hbx2.cell 1, hbx2.cell 2, by
                             rw [HGK.out]
                             rcases (show j = 0 ∨ j = 1 by omega) with rfl | rfl
                             · exact hbe2.cell 0
                             · exact hbe2.cell 1⟩
                           have HE2 := Lib.hid he2
                           have HQ2 := Lib.hid (And.intro hs2 hq2)
                           have HT2 := Lib.hid hT2
                           have HBX2 := Lib.hid hbx2
                           clear he2 hs2 hq2 hT2 hbx2 hbe2))
                    obtain ⟨m1, -, m3⟩ := s2
                    go_wp2_with fail
                    refine (linkGot_any w2 HE2.out).mono ?_
                    rintro e w3 ⟨Gs, GA, gc, F3, rfl, hdat, htr, hms, -, he3, hs3, hq3⟩
                    have hT3 := HE2.out.fqT hq3
                    obtain ⟨hGl, hGat⟩ := got_at hdat
                    obtain ⟨q, hq⟩ : ∃ q, q = Gs.length := ⟨_, rfl⟩
                    rw [← hq] at htr hGl ⊢
                    have hqv : q = vn - n2 j := hGl
                    rw [← hqv] at hGat
                    have HGAT := Lib.hid hGat
                    have he3' : EndS w3 w.heap.size F3 (gs j) vf vn ((msgs j M).drop vf) [] := by rw [← HGK.out]; exact he3
                    have hL3 := HL1d.out.fq hj (mk := M) (HQ2.out.2.trans hq3 HQ2.out.1) (fun b hb => HQ2.out.1 b (hs3 b hb)) he3'
                    have hM := HM.out
                    subst hM
                    have HL3 := Lib.hid ((hL3.cm (m' := fun _ => min N (s + 1)) fun i _ => by unfold upd; split <;> rfl).cG (G' := fun _ => []) fun i _ => by split <;> rfl)
                    have HLB3 : Hid (LaB w3 hh L q (some ⟨pb, po, none⟩) GA l Gs #[.int .i64 (k' : Int), .int .i64 (j : Int), .slice xA xn xc]) :=
                      Lib.hid ⟨(HD1.out.1.keepT HT2.out (by decide)).keepT hT3 (by decide), fun x hx => ⟨((HD1.out.2 x hx).1.keepT HT2.out (by decide)).keepT hT3 (by decide), (HD1.out.2 x hx).2⟩, htr, hms, hT3 _ _ _ HBX2.out (by decide)⟩
                    clear m1 m3 s1 hdat htr hms he3 hs3 hq3 hT3 hGl hGat hq he3' hL3 HIN HE2 HE1 HQ2 HT2 HBX2 HBX HL1d HD1 HM HGK HVV HDLT
                    obtain ⟨f3, hf3⟩ : ∃ f3, f3 = upd f2 j vf := ⟨_, rfl⟩
                    obtain ⟨n3, hn3⟩ : ∃ n3, n3 = upd n2 j vn := ⟨_, rfl⟩
                    obtain ⟨F4, hF4⟩ : ∃ F4 : Nat → List Nat, F4 = fun i => if i = j then F3 else F i := ⟨_, rfl⟩
                    rw [← hf3, ← hn3, ← hF4] at HL3
                    rw [← hf3, ← hn3] at HPN
                    have HN3 := Lib.hid hn3
                    have HL4 : Hid (LaW w w3 g gE gC (s + 1 : Nat) (2 * s + 2 : Nat) ds rest (fun _ => min N (s + 1)) f3 n3 (upd n2 j (n2 j + 0)) gs F4 (fun _ => [])) := Lib.hid (by rw [show n2 j + 0 = n2 j from rfl, upd_id]; exact HL3.out)
                    clear hf3 hn3 hF4 HL3
                    go_wp2_with fail
                    go_loopw [127] (fun iv wx => ∃ i2 : Nat, i2 ≤ q ∧ iv = .int .i64 i2 ∧ Hid (LaW w wx g gE gC (s + 1 : Nat) (2 * s + 2 : Nat) ds rest (fun _ => min N (s + 1)) f3 n3 (upd n2 j (n2 j + i2)) gs F4 (fun _ => [])) ∧ Hid (LaB wx hh L q (some ⟨pb, po, none⟩) GA l Gs #[.int .i64 (k' : Int), .int .i64 (j : Int), .slice xA xn xc])) (fun iv _ => q - (intOf iv).toNat)
                    case atStart => exact ⟨0, Nat.zero_le _, rfl, HL4, HLB3⟩
                    case round =>
                      clear HL4 HLB3
                      obtain ⟨i2, hi2, rfl, HLC, HLB⟩ := hrel
                      by_cases hiq : i2 < q
                      · have hiqz : (i2 : Int) < q := by omega
                        obtain ⟨m, hm, hmd⟩ := HGAT.out i2 hiq
                        obtain ⟨cc, hcc⟩ : ∃ cc, cc = n2 j + i2 := ⟨_, rfl⟩
                        rw [← hcc] at hmd HLC
                        have hc31 : cc ≤ 31 := by omega
                        have hmok := HLB.out.ms m (List.mem_of_getElem? hm)
                        obtain ⟨ab, ao, hA, -, hcell⟩ := HLB.out.got.rd.2 (by omega)
                        have r0 := hcell i2 _ (msV_get hm)
                        have hmn : m.n = 2 := by rw [hmok.len, hmd]; rfl
                        rw [hmn] at r0
                        subst hA
                        have hmt : Tr wr 5 1 m.A 2 (bytesV [cc, k']) := by rw [← hmn, ← hmd]; exact hmok.tr
                        obtain ⟨mA, hmA⟩ : ∃ mA, mA = m.A := ⟨_, rfl⟩
                        obtain ⟨mc, hmc⟩ : ∃ mc, mc = m.c := ⟨_, rfl⟩
                        have hmc2 : 2 ≤ mc ∧ mc ≤ 9223372036854775807 := ⟨by rw [hmc, ← hmn]; exact hmok.cap, by rw [hmc]; exact hmok.cap2⟩
                        rw [← hmA, ← hmc] at r0
                        rw [← hmA] at hmt
                        obtain ⟨hmc3, hmc4⟩ := hmc2
                        obtain ⟨W5, hW5⟩ : ∃ W5, W5 = (wr.alloc (.cells #[.int .u8 (cc : Int), .int .u8 (k' : Int)] 5)).drew := ⟨_, rfl⟩
                        have hB5 : Below wr.heap.size wr W5 := by rw [hW5]; exact ((Below.refl wr.heap.size wr).alloc (Nat.le_refl _) _).drew
                        have hms5 : Tr W5 5 1 (some ⟨wr.heap.size, 0, none⟩) 2 (bytesV [cc, k']) := by
                          rw [hW5]
                          exact (ms2_ok wr cc k' (by omega) (by omega)).tr.below (Below.refl _ _).drew
                        have hlt5 : ∀ b ∈ [cc, k'], b < 256 := fun b hb => by
                          simp only [List.mem_cons, List.not_mem_nil, or_false] at hb
                          omega
                        have heq := bytesEqual_any mA (some ⟨wr.heap.size, 0, none⟩) 2 mc 2 2 _ [cc, k'] [cc, k'] W5 hlt5 hlt5 (show Tr _ 5 1 mA 2 (bytesV [cc, k']) from hmt.below hB5).rd hms5.rd
                        rw [decide_eq_true rfl] at heq
                        have HEQ := Lib.hid heq
                        have HL6 := Lib.hid (HLC.out.below hB5)
                        have HLB6 := Lib.hid (HLB.out.keepT (Below.keepT hB5 [83]) (by decide))
                        have t1 : wr.cell? ⟨gC, j, none⟩ = some (.int .i64 cc) := by rw [HLC.out.c_at hj, upd_same]
                        have s1 : wr.drew.cell? ⟨hh, 0, none⟩ = some (.int .i64 k') ∧ wr.drew.cell? ⟨hh, 1, none⟩ = some (.int .i64 j) ∧ wr.drew.cell? ⟨gC, j, none⟩ = some (.int .i64 cc) := ⟨HLB.out.box.cell 0, HLB.out.box.cell 1, t1⟩
                        have s2 : W5.cell? ⟨hh, 0, none⟩ = some (.int .i64 k') ∧ W5.cell? ⟨hh, 1, none⟩ = some (.int .i64 j) ∧ W5.cell? ⟨gC, j, none⟩ = some (.int .i64 cc) := ⟨HLB6.out.box.cell 0, HLB6.out.box.cell 1, by rw [HL6.out.c_at hj, upd_same]⟩
                        have f6 : W5.frozen? ⟨gC, j, none⟩ = false := HL6.out.bc.frozen j
                        have hl7 := HL6.out.count hj (cc + 1)
                        rw [upd_upd, show cc + 1 = n2 j + (i2 + 1) by omega] at hl7
                        rw [show ((n2 j + (i2 + 1) : Nat) : Int) = (cc : Int) + 1 by omega] at hl7
                        have HL7 := Lib.hid hl7
                        have HLB7 := Lib.hid (HLB6.out.keepT (HL6.out.countT j (.int .i64 ((cc : Int) + 1))) (by decide))
                        have hk256 : (k' : Int) < 2 := by omega
                        have e5 : W5 = (wr.alloc (.cells #[.int .u8 (IntKind.u8.wrap (cc : Int)), .int .u8 (IntKind.u8.wrap (k' : Int))] 5)).drew := by
                          rw [show IntKind.u8.wrap (cc : Int) = cc by rw [IntKind.wrap_u8]; omega, show IntKind.u8.wrap (k' : Int) = k' by rw [IntKind.wrap_u8]; omega, hW5]
                        clear hW5 hms5
                        clear hmd hcc hmok hcell hmn hmt hmA hmc hB5 hlt5 heq t1 hm hl7 HLC HLB HL6 HLB6
                        subst e5
                        go_wp2_with fail
                        go_region_held3 (fun wx => wx.cell? ⟨hh, 0, none⟩ = some (.int .i64 k') ∧ wx.cell? ⟨hh, 1, none⟩ = some (.int .i64 j) ∧ wx.cell? ⟨gC, j, none⟩ = some (.int .i64 cc))
                          (first | (with_reducible exact s1) | (with_reducible exact s2) | go_keep)
                          (first
                            | (go_at_call 21
                               (with_reducible refine HEQ.out.mono ?_)
                               rintro e w6 ⟨rfl, rfl⟩))
                        obtain ⟨-, m2, m3⟩ := s2
                        generalize (wr.alloc (.cells #[.int .u8 (IntKind.u8.wrap (cc : Int)), .int .u8 (IntKind.u8.wrap (k' : Int))] 5)).drew = W5 at *
                        go_wp2_with fail
                        go_roundw
                        case rel => exact ⟨i2 + 1, by omega, by go_num, HL7, HLB7⟩
                        case measure => simp [intOf]; omega
                      · obtain rfl : i2 = q := by omega
                        have hL8 := HLC.out
                        rw [show n2 j + i2 = vn by omega, ← HN3.out] at hL8
                        have HL8 := Lib.hid hL8
                        have HI8 := HPN
                        have HD8 : Hid (Tr wr 45 3 (some ⟨pb, po, none⟩) L (pkCs l) ∧ ∀ x ∈ l, Tr wr 5 1 x.A x.n (x.dat.map (Value.int .u8)) ∧ x.n ≤ x.c ∧ x.c ≤ maxLen) := Lib.hid ⟨HLB.out.pk, HLB.out.dat⟩
                        clear hL8 HLC HLB HPN HGAT HN3
                        go_wp2_with fail
                        go_roundw
                        case rel => exact ⟨i + 1, f3, n3, F4, by omega, by go_num, HL8, HI8, HD8⟩
                        case measure => simp [intOf]; omega
                  · obtain rfl : i = L := by omega
                    have HPG : Hid (bigD ds = false → Prog N (s + 1 - s0Z ds) f2 n2) := Lib.hid (HIX.out.prog HLL.out HFN.out HPR.out HFR.out)
                    have HL9 : Hid (LaW w wr g gE gC (s + 1 : Nat) (2 * (s + 1) : Nat) ds rest (fun _ => min N (s + 1)) f2 n2 n2 gs F (fun _ => [])) := HLX
                    have HI9 : Hid (La (fun _ => min N (s + 1)) f2 n2 ∧ FlI ds (2 * (s + 1)) (fun _ => min N (s + 1)) n2 rest ∧ (bigD ds = false → Prog N (s + 1 - s0Z ds) f2 n2)) := Lib.hid ⟨HIX.out.la, HIX.out.fl, HPG.out⟩
                    clear HPG HIX HLX HDX HFR HPR HFN
                    go_wp2_with fail
                    go_roundw
                    case rel => exact ⟨s + 1, rest, f2, n2, F, by omega, by omega, by go_num, HL9, HI9⟩
                    case measure => simp [intOf]; omega
        · have hsT' : (s : Int) = last + 60 * (1 + (k : Int)) + 40 := by omega
          have hs40 : 40 ≤ s := by omega
          have HC53 := Lib.hid (contains53_any A k c w.heap.size ds wr.drew (show Rd wr.drew _ _ _ _ _ from Rd.below (w' := wr) HR.out HLW.out.bl) HN.out (by omega) HLW.out.bl.size)
          have HST := Lib.hid hsT'
          clear hsT hsT'
          generalize hbd : bigD ds = bd at *
          have HBD := Lib.hid hbd
          clear hbd
          cases bd
          · have hdone : ∀ j, j < 2 → f j = N ∧ nn j = N := by
              have hp := (HLI.out.2.2 rfl).done hN31 (by rw [← HS0.out]; have := HST.out; omega)
              have h2 : min N s = N := by omega
              have hla := HLI.out.1
              intro j hj
              have h3 := hp j hj
              have h4 := hla.fn j hj
              have h5 : nn j ≤ min N s := hla.nm j hj
              have h6 : nn (1 - j) ≤ min N s := hla.nm (1 - j) (by omega)
              rcases (show j = 0 ∨ j = 1 by omega) with rfl | rfl <;> simp only [Nat.sub_zero, Nat.sub_self] at h4 h6 <;> omega
            have hW0 : ∀ j, j < 2 → ((msgs j ((fun _ => min N s) j)).drop (f j)).length = 0 := fun j hj => by
              rw [List.length_drop, msgs_length, (hdone j hj).1]
              simp only
              omega
            have hc0 : wr.cell? ⟨gC, 0, none⟩ = some (.int .i64 N) := by rw [HLW.out.c_at (by omega), (hdone 0 (by omega)).2]
            have hc1 : wr.cell? ⟨gC, 1, none⟩ = some (.int .i64 N) := by rw [HLW.out.c_at (by omega), (hdone 1 (by omega)).2]
            have hc2 := HLW.out.e_at (k := 0) (by omega)
            have hc3 := HLW.out.e_at (k := 1) (by omega)
            have s5 : wr.drew.cell? ⟨gC, 0, none⟩ = some (.int .i64 N) ∧ wr.drew.cell? ⟨gC, 1, none⟩ = some (.int .i64 N) ∧ wr.drew.cell? ⟨gE, 0, none⟩ = some (.pointer (some ⟨gs 0, 0, none⟩)) ∧ wr.drew.cell? ⟨gE, 1, none⟩ = some (.pointer (some ⟨gs 1, 0, none⟩)) := ⟨hc0, hc1, hc2, hc3⟩
            have HDN := Lib.hid hdone
            have HW0 := Lib.hid hW0
            clear hc0 hc1 hc2 hc3 hdone hW0
            have hEq : ∀ wx, Sem.run Try.prog (Op.equalIn 10000 83 (.agg #[.int .i64 (N : Int), .int .i64 (N : Int)]) (.agg #[.int .i64 (N : Int), .int .i64 (N : Int)])) wx = .ok true wx := fun wx => eq83 N wx
            go_wp2_with fail
            go_region_held3 (fun wx => wx.cell? ⟨gC, 0, none⟩ = some (.int .i64 N) ∧ wx.cell? ⟨gC, 1, none⟩ = some (.int .i64 N) ∧ wx.cell? ⟨gE, 0, none⟩ = some (.pointer (some ⟨gs 0, 0, none⟩)) ∧ wx.cell? ⟨gE, 1, none⟩ = some (.pointer (some ⟨gs 1, 0, none⟩)))
              (first | (with_reducible exact s5) | (with_reducible exact s6) | go_keep)
              (first
                | (go_at_call 53
                   (with_reducible refine HC53.out.mono ?_)
                   rintro e w6 ⟨rfl, hb6⟩
                   have hb7 : Below wr.heap.size wr w6 := ⟨hb6.os, hb6.tape, hb6.output, hb6.size, hb6.block⟩
                   have hL6 := HLW.out.below hb7
                   have s6 : w6.cell? ⟨gC, 0, none⟩ = some (.int .i64 N) ∧ w6.cell? ⟨gC, 1, none⟩ = some (.int .i64 N) ∧ w6.cell? ⟨gE, 0, none⟩ = some (.pointer (some ⟨gs 0, 0, none⟩)) ∧ w6.cell? ⟨gE, 1, none⟩ = some (.pointer (some ⟨gs 1, 0, none⟩)) :=
                     ⟨by rw [hL6.c_at (by omega), (HDN.out 0 (by omega)).2], by rw [hL6.c_at (by omega), (HDN.out 1 (by omega)).2], hL6.e_at (k := 0) (by omega), hL6.e_at (k := 1) (by omega)⟩
                   have hwa := waiting_any w6 (hL6.ends 0 (by omega))
                   have hwb := waiting_any w6 (hL6.ends 1 (by omega))
                   rw [HW0.out 0 (by omega)] at hwa
                   rw [HW0.out 1 (by omega)] at hwb
                   have HWA := Lib.hid hwa
                   have HWB := Lib.hid hwb
                   have HB6 := Lib.hid (HLW.out.bl.trans (hb7.mono HLW.out.bl.size))
                   clear hb6 hb7 hL6 hwa hwb)
                | (go_at_call 50
                   (with_reducible refine HWA.out.mono ?_)
                   rintro e w7 ⟨rfl, rfl⟩)
                | (go_at_call 50
                   (with_reducible refine HWB.out.mono ?_)
                   rintro e w7 ⟨rfl, rfl⟩))
            go_wp2_with fail
            go_ret
            exact ⟨rfl, HB6.out⟩
          · go_wp2_with fail
            refine wp_region_held_drew (S := fun _ => True) (by kernel_rfl) trivial (fun hHeld => ?_)
            refine wpAnyH_val (i := 0) (v := .slice A k c) (d := some 152) rfl rfl (by kernel_rfl) (by kernel_rfl) (by kernel_rfl) (fun _ _ _ h => h) (Or.inl ⟨by rfl, fun w _ => by go_simp⟩) trivial ?_
            (try simp only [Act.put, List.setIfInBounds_toArray, List.set_cons_zero, List.set_cons_succ])
            refine wpAnyH_ready (rs := [1]) (by kernel_rfl) (by simp) ?_
            refine AllReadyH.cons rfl (fun K hK => ?_) AllReadyH.nil
            go_simp
            refine HC53.out.mono ?_
            rintro e w6 ⟨rfl, hb6⟩
            refine hK.out _ _ trivial (fun hHeld => ?_)
            clear hK
            (try simp only [Act.put, List.setIfInBounds_toArray, List.set_cons_zero, List.set_cons_succ])
            refine wpAnyH_val (i := 2) (v := .bool true) (d := some 154) rfl rfl (by kernel_rfl) (by kernel_rfl) (by kernel_rfl) (fun _ _ _ h => h) (Or.inl ⟨by rfl, fun w _ => by go_simp⟩) trivial ?_
            (try simp only [Act.put, List.setIfInBounds_toArray, List.set_cons_zero, List.set_cons_succ])
            refine wpAnyH_skip (i := 3) (d := some 155) rfl rfl (by kernel_rfl) (by kernel_rfl) (by kernel_rfl) (fun _ _ _ h => h) (by rfl) trivial ?_
            (try simp only [Act.put, List.setIfInBounds_toArray, List.set_cons_zero, List.set_cons_succ])
            refine wpAnyH_skip (i := 4) (d := some 156) rfl rfl (by kernel_rfl) (by kernel_rfl) (by kernel_rfl) (fun _ _ _ h => h) (by rfl) trivial ?_
            (try simp only [Act.put, List.setIfInBounds_toArray, List.set_cons_zero, List.set_cons_succ])
            refine wpAnyH_skip (i := 5) (d := some 157) rfl rfl (by kernel_rfl) (by kernel_rfl) (by kernel_rfl) (fun _ _ _ h => h) (by rfl) trivial ?_
            (try simp only [Act.put, List.setIfInBounds_toArray, List.set_cons_zero, List.set_cons_succ])
            refine wpAnyH_skip (i := 6) (d := some 158) rfl rfl (by kernel_rfl) (by kernel_rfl) (by kernel_rfl) (fun _ _ _ h => h) (by rfl) trivial ?_
            (try simp only [Act.put, List.setIfInBounds_toArray, List.set_cons_zero, List.set_cons_succ])
            refine wpAnyH_skip (i := 7) (d := some 159) rfl rfl (by kernel_rfl) (by kernel_rfl) (by kernel_rfl) (fun _ _ _ h => h) (by rfl) trivial ?_
            (try simp only [Act.put, List.setIfInBounds_toArray, List.set_cons_zero, List.set_cons_succ])
            refine wpAnyH_skip (i := 8) (d := some 160) rfl rfl (by kernel_rfl) (by kernel_rfl) (by kernel_rfl) (fun _ _ _ h => h) (by rfl) trivial ?_
            (try simp only [Act.put, List.setIfInBounds_toArray, List.set_cons_zero, List.set_cons_succ])
            refine wpAnyH_skip (i := 9) (d := some 161) rfl rfl (by kernel_rfl) (by kernel_rfl) (by kernel_rfl) (fun _ _ _ h => h) (by rfl) trivial ?_
            (try simp only [Act.put, List.setIfInBounds_toArray, List.set_cons_zero, List.set_cons_succ])
            refine wpAnyH_skip (i := 10) (d := some 162) rfl rfl (by kernel_rfl) (by kernel_rfl) (by kernel_rfl) (fun _ _ _ h => h) (by rfl) trivial ?_
            (try simp only [Act.put, List.setIfInBounds_toArray, List.set_cons_zero, List.set_cons_succ])
            refine wpAnyH_skip (i := 11) (d := some 163) rfl rfl (by kernel_rfl) (by kernel_rfl) (by kernel_rfl) (fun _ _ _ h => h) (by rfl) trivial ?_
            (try simp only [Act.put, List.setIfInBounds_toArray, List.set_cons_zero, List.set_cons_succ])
            refine wpAnyH_skip (i := 12) (d := some 164) rfl rfl (by kernel_rfl) (by kernel_rfl) (by kernel_rfl) (fun _ _ _ h => h) (by rfl) trivial ?_
            (try simp only [Act.put, List.setIfInBounds_toArray, List.set_cons_zero, List.set_cons_succ])
            refine wpAnyH_skip (i := 13) (d := some 165) rfl rfl (by kernel_rfl) (by kernel_rfl) (by kernel_rfl) (fun _ _ _ h => h) (by rfl) trivial ?_
            (try simp only [Act.put, List.setIfInBounds_toArray, List.set_cons_zero, List.set_cons_succ])
            refine wpAnyH_skip (i := 14) (d := some 166) rfl rfl (by kernel_rfl) (by kernel_rfl) (by kernel_rfl) (fun _ _ _ h => h) (by rfl) trivial ?_
            (try simp only [Act.put, List.setIfInBounds_toArray, List.set_cons_zero, List.set_cons_succ])
            refine wpAnyH_skip (i := 15) (d := some 167) rfl rfl (by kernel_rfl) (by kernel_rfl) (by kernel_rfl) (fun _ _ _ h => h) (by rfl) trivial ?_
            (try simp only [Act.put, List.setIfInBounds_toArray, List.set_cons_zero, List.set_cons_succ])
            refine wpAnyH_skip (i := 16) (d := some 168) rfl rfl (by kernel_rfl) (by kernel_rfl) (by kernel_rfl) (fun _ _ _ h => h) (by rfl) trivial ?_
            (try simp only [Act.put, List.setIfInBounds_toArray, List.set_cons_zero, List.set_cons_succ])
            refine wpAnyH_skip (i := 17) (d := some 169) rfl rfl (by kernel_rfl) (by kernel_rfl) (by kernel_rfl) (fun _ _ _ h => h) (by rfl) trivial ?_
            (try simp only [Act.put, List.setIfInBounds_toArray, List.set_cons_zero, List.set_cons_succ])
            refine wpAnyH_skip (i := 18) (d := some 170) rfl rfl (by kernel_rfl) (by kernel_rfl) (by kernel_rfl) (fun _ _ _ h => h) (by rfl) trivial ?_
            (try simp only [Act.put, List.setIfInBounds_toArray, List.set_cons_zero, List.set_cons_succ])
            refine wpAnyH_skip (i := 19) (d := some 171) rfl rfl (by kernel_rfl) (by kernel_rfl) (by kernel_rfl) (fun _ _ _ h => h) (by rfl) trivial ?_
            (try simp only [Act.put, List.setIfInBounds_toArray, List.set_cons_zero, List.set_cons_succ])
            refine wpAnyH_val (i := 20) (v := .bool true) (d := some 172) rfl rfl (by kernel_rfl) (by kernel_rfl) (by kernel_rfl) (fun _ _ _ h => h) (Or.inl ⟨by rfl, fun w _ => by go_simp⟩) trivial ?_
            (try simp only [Act.put, List.setIfInBounds_toArray, List.set_cons_zero, List.set_cons_succ])
            refine wpAnyH_val (i := 21) (v := .bool true) (d := some 4) rfl rfl (by kernel_rfl) (by kernel_rfl) (by kernel_rfl) (fun _ _ _ h => h) (Or.inl ⟨by rfl, fun w _ => by go_simp⟩) trivial ?_
            (try simp only [Act.put, List.setIfInBounds_toArray, List.set_cons_zero, List.set_cons_succ])
            refine wpAnyH_done (by kernel_rfl) ?_ _
            go_wp2_with fail
            go_ret
            exact ⟨rfl, HLW.out.bl.trans ((show Below wr.heap.size wr w6 from ⟨hb6.os, hb6.tape, hb6.output, hb6.size, hb6.block⟩).mono HLW.out.bl.size)⟩
end Go.Proofs.Ytlgcdcjfobfoiaa
