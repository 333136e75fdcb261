/-
  Flights; a network in memory ('NetSt'); the contract of fly. Conditions: numbers of moderate size.
-/
import Derived.Test.YtlgcdcjfobfoiaaNt1
import Derived.Lib.QuoteBits
import Derived.Great.Walk
namespace Go.Proofs.Ytlgcdcjfobfoiaa
open Go.RowKit
set_option maxRecDepth 100000

structure Fl where
  due : Int
  num : Int
  fr : Int
  to : Int
  A : Option Addr
  n : Nat
  c : Nat
  dat : List Int
def Fl.cs (f : Fl) : List Value := [.int .i64 f.due, .int .i64 f.num, .int .i64 f.fr, .int .i64 f.to, .slice f.A f.n f.c]
def flCs (l : List Fl) : List Value := l.flatMap Fl.cs
theorem flCs_length (l : List Fl) : (flCs l).length = l.length * 5 := by
  induction l with
  | nil => rfl
  | cons a l ih =>
    have : flCs (a :: l) = a.cs ++ flCs l := by simp [flCs]
    rw [this, List.length_append, ih, List.length_cons]
    simp [Fl.cs]; omega
theorem flCs_append (a b : List Fl) : flCs (a ++ b) = flCs a ++ flCs b := by simp [flCs, List.flatMap_append]
theorem flCs_cons (a : Fl) (b : List Fl) : flCs (a :: b) = a.cs ++ flCs b := by simp [flCs]
theorem flCs_get (l : List Fl) (k : Nat) (f : Fl) (h : l[k]? = some f) (j : Nat) (hj : j < 5) : (flCs l)[k * 5 + j]? = f.cs[j]? := by
  induction l generalizing k with
  | nil => simp at h
  | cons a l ih =>
    rw [flCs_cons]
    cases k with
    | zero =>
      simp at h; subst h
      rw [List.getElem?_append_left (by simp [Fl.cs]; omega)]; simp
    | succ k =>
      rw [List.getElem?_append_right (by simp [Fl.cs]; omega)]
      have := ih k (by simpa using h)
      rw [← this]; congr 1; simp [Fl.cs]; omega
theorem flCs_one (l : List Fl) : ∀ u ∈ flCs l, u.oneCell' = true := by
  intro u hu
  simp only [flCs, List.mem_flatMap] at hu
  obtain ⟨f, _, hu⟩ := hu
  simp [Fl.cs] at hu
  rcases hu with rfl | rfl | rfl | rfl | rfl <;> rfl
theorem flCs_take (l : List Fl) (i : Nat) (hi : i ≤ l.length) : (flCs l).take (i * 5) = flCs (l.take i) := by
  have h : flCs l = flCs (l.take i) ++ flCs (l.drop i) := by rw [← flCs_append, List.take_append_drop]
  rw [h, List.take_append_of_le_length (by rw [flCs_length]; simp; omega)]
  exact List.take_of_length_le (by rw [flCs_length]; simp; omega)
theorem flCs_drop (l : List Fl) (i : Nat) (hi : i ≤ l.length) : (flCs l).drop (i * 5) = flCs (l.drop i) := by
  have h : flCs l = flCs (l.take i) ++ flCs (l.drop i) := by rw [← flCs_append, List.take_append_drop]
  have h2 : (flCs (l.take i)).length = i * 5 := by rw [flCs_length]; simp; omega
  conv => lhs; rw [h, ← h2, List.drop_left]

/-- A slice that reads out of a block of type e. -/
def Tr (w : World) (e : TypeId) (size : Nat) (A : Option Addr) (n : Nat) (xs : List Value) : Prop :=
  xs.length = n * size ∧ (0 < n → ∃ b o cs, A = some ⟨b, o, none⟩ ∧ Bk w b e cs ∧ ∀ j u, xs[j]? = some u → cs[o + j]? = some u)
theorem Tr.kq {base : Nat} {w w' : World} {e : TypeId} {size n : Nat} {A : Option Addr} {xs : List Value} (h : Tr w e size A n xs) (hk : Kq base w w') (h1 : e ≠ 110) (h2 : e ≠ 113) : Tr w' e size A n xs := by
  refine ⟨h.1, fun hn => ?_⟩
  obtain ⟨b, o, cs, hA, hb, hc⟩ := h.2 hn
  exact ⟨b, o, cs, hA, hk.block _ _ _ hb h1 h2, hc⟩
theorem Tr.rd {w : World} {e : TypeId} {size n : Nat} {A : Option Addr} {xs : List Value} (h : Tr w e size A n xs) : Rd w w.heap.size size A n xs := by
  refine ⟨h.1, fun hn => ?_⟩
  obtain ⟨b, o, cs, hA, hb, hc⟩ := h.2 hn
  exact ⟨b, o, hA, hb.lt, fun j u hu => (hb.cell _).trans (hc j u hu)⟩
theorem Tr.of_own {w : World} {base : Nat} {e : TypeId} {size n c : Nat} {A : Option Addr} {xs : List Value} (h : w.ownsRow base e size (.slice A n c) n xs) : Tr w e size A n xs := by
  refine ⟨h.1, fun hn => ?_⟩
  rcases h.2 with ⟨hv, rfl⟩ | ⟨g, cap, cur, hv, _, hb, _, _, hs, ht⟩
  · omega
  · injection hv with hA _ _
    refine ⟨g, 0, cur, hA, hb, fun j u hu => ?_⟩
    rw [Nat.zero_add, ← Array.getElem?_toList]
    rw [← ht, List.getElem?_take] at hu
    split at hu
    · exact hu
    · cases hu

theorem T.info113 : (Try.prog.info? 113).map (fun i => (i.zero, i.size, i.bytes)) = some (some (.agg #[.int .i64 0, .int .i64 0, .int .i64 0, .int .i64 0, .slice none 0 0]), 5, 56) := by kernel_rfl

/-- The five cells of the new flight, laid one by one. -/
theorem set5 (L X Y Z : List Value) (hX : X.length = 5) (a b c d e : Value) (k : Nat) (hk : k = L.length) (hL : Z = L ++ (X ++ Y)) :
    (((((Z.toArray.setIfInBounds k a).setIfInBounds (k + 1) b).setIfInBounds (k + 2) c).setIfInBounds (k + 3) d).setIfInBounds (k + 4) e) = (L ++ ([a, b, c, d, e] ++ Y)).toArray := by
  subst hL hk
  match X, hX with
  | [x1, x2, x3, x4, x5], _ =>
    apply Array.ext'
    simp

theorem list5 {α : Type} (X : List α) (h : X.length = 5) : ∃ x1 x2 x3 x4 x5, X = [x1, x2, x3, x4, x5] := by
  match X, h with
  | [x1, x2, x3, x4, x5], _ => exact ⟨_, _, _, _, _, rfl⟩
theorem splice_fly (pre xs z post : List Value) (i n : Nat) (hx : xs.length = n * 5) (hz : z.length = 5) (hi : i ≤ n) :
    ∃ X, X.length = 5 ∧ splice (pre ++ ((xs ++ z) ++ post)) (pre.length + (i + 1) * 5) (xs.drop (i * 5)) = (pre ++ xs.take (i * 5)) ++ (X ++ (xs.drop (i * 5) ++ post)) := by
  refine ⟨((xs ++ z).drop (i * 5)).take 5, by simp [hx, hz]; omega, ?_⟩
  unfold splice
  have h1 : (pre ++ ((xs ++ z) ++ post)).take (pre.length + (i + 1) * 5) = pre ++ (xs ++ z).take ((i + 1) * 5) := by
    rw [List.take_length_add_append, List.take_append_of_le_length (by simp [hx, hz]; omega)]
  have h2 : (xs ++ z).take ((i + 1) * 5) = xs.take (i * 5) ++ ((xs ++ z).drop (i * 5)).take 5 := by
    rw [show (i + 1) * 5 = i * 5 + 5 by omega, List.take_add, List.take_append_of_le_length (by omega)]
  have h3 : (pre ++ ((xs ++ z) ++ post)).drop (pre.length + (i + 1) * 5 + (xs.drop (i * 5)).length) = post := by
    have : pre.length + (i + 1) * 5 + (xs.drop (i * 5)).length = (pre ++ (xs ++ z)).length := by simp [hx, hz]; omega
    rw [this, ← List.append_assoc pre (xs ++ z) post, List.drop_left]
  rw [h1, h2, h3]
  simp

theorem Sh.ne {w : World} {base n c size g : Nat} {e t : TypeId} {A : Option Addr} {xs : List Value} {cs : Array Value} (h : Sh w base e size A n c xs) (hg : Bk w g t cs) (hne : e ≠ t) : some g ≠ A.map (·.block) := by
  intro he
  rcases h.2.2.2 with ⟨rfl, _⟩ | ⟨g', pre, post, rfl, _, hb, _⟩
  · cases he
  · injection he with he
    subst he
    exact Bk.ne_ hb hg hne rfl
theorem Sh.mine {w : World} {base n c size : Nat} {e : TypeId} {A : Option Addr} {xs : List Value} (h : Sh w base e size A n c xs) (he : e = 110 ∨ e = 113) : ∀ g, A.map (·.block) = some g → base ≤ g ∧ ∃ t cs, Bk w g t cs ∧ (t = 110 ∨ t = 113) := by
  intro g hg
  rcases h.2.2.2 with ⟨rfl, _⟩ | ⟨g', pre, post, rfl, hb', hb, _⟩
  · cases hg
  · injection hg with hg
    subst hg
    exact ⟨hb', e, _, hb, he⟩

/-- What fly leaves: the new flight lies ahead of all later ones. -/
def FlyPost (base g : Nat) (E D N S : Value) (f : Fl) (fs : List Fl) (w w' : World) : Prop :=
  ∃ i A' c', i ≤ fs.length ∧ (∀ j x, fs[j]? = some x → i ≤ j → f.due < x.due) ∧ (∀ j x, fs[j]? = some x → j + 1 = i → x.due ≤ f.due) ∧
    Bk w' g 110 #[E, D, N, S, .slice A' (fs.length + 1) c'] ∧ Sh w' base 113 5 A' (fs.length + 1) c' (flCs (fs.take i ++ f :: fs.drop i)) ∧ Kq base w w'

theorem fly_close0 {base g g3 k n c3 : Nat} {pre post Y : List Value} {E D N S : Value} {f : Fl} {fs : List Fl} {w W : World}
    (hG : Bk W g3 113 ((pre ++ (flCs fs).take (k * 5)) ++ (f.cs ++ (Y ++ post))).toArray)
    (hB : Bk W g 110 #[E, D, N, S, .slice (some ⟨g3, pre.length, none⟩) (n + 1) c3]) (hK : Kq base w W) (hg : base ≤ g3) (hY : Y = (flCs fs).drop (k * 5)) (hn : n = fs.length) (hk : k ≤ n)
    (hall : ∀ (j : Nat) (x : Fl), fs[j]? = some x → k ≤ j → f.due < x.due) (hle : ∀ (j : Nat) (x : Fl), fs[j]? = some x → j + 1 = k → x.due ≤ f.due)
    (hp : (c3 - (n + 1)) * 5 ≤ post.length) (hc : n + 1 ≤ c3) (hm : c3 ≤ maxLen) : FlyPost base g E D N S f fs w W := by
  subst hn
  refine ⟨k, some ⟨g3, pre.length, none⟩, c3, hk, hall, hle, hB, ⟨?_, hc, hm, .inr ⟨g3, pre, post, rfl, hg, ?_, hp⟩⟩, hK⟩
  · rw [flCs_length, List.length_append, List.length_cons, List.length_take, List.length_drop]; congr 1; omega
  · rw [flCs_append, flCs_cons, ← flCs_take fs k hk, ← flCs_drop fs k hk, ← hY]
    have e : pre ++ (flCs fs).take (k * 5) ++ (f.cs ++ (Y ++ post)) = pre ++ ((flCs fs).take (k * 5) ++ (f.cs ++ Y) ++ post) := by simp only [List.append_assoc]
    rw [← e]
    exact hG

def set5c (w : World) (g o : Nat) (a b c d e : Value) : World := ((((w.setCell ⟨g, o, none⟩ a).setCell ⟨g, o + 1, none⟩ b).setCell ⟨g, o + 2, none⟩ c).setCell ⟨g, o + 3, none⟩ d).setCell ⟨g, o + 4, none⟩ e
theorem set5c_bk {w : World} {g o : Nat} {t : TypeId} {L X Y : List Value} (a b c d e : Value) (hX : X.length = 5) (ho : o = L.length) (h : Bk w g t (L ++ (X ++ Y)).toArray) : Bk (set5c w g o a b c d e) g t (L ++ ([a, b, c, d, e] ++ Y)).toArray := by
  rw [← set5 L X Y _ hX a b c d e o ho rfl]
  exact ((((h.set_ o a).set_ (o + 1) b).set_ (o + 2) c).set_ (o + 3) d).set_ (o + 4) e
theorem set5c_far {w : World} {g o g' : Nat} {t : TypeId} {cs : Array Value} (a b c d e : Value) (hne : g' ≠ g) (h : Bk w g' t cs) : Bk (set5c w g o a b c d e) g' t cs :=
  ((((h.far (p := ⟨g, o, none⟩) hne a).far (p := ⟨g, o + 1, none⟩) hne b).far (p := ⟨g, o + 2, none⟩) hne c).far (p := ⟨g, o + 3, none⟩) hne d).far (p := ⟨g, o + 4, none⟩) hne e
theorem set5c_kq {base : Nat} {a0 w : World} {g o : Nat} {t : TypeId} {cs : Array Value} (a b c d e : Value) (hg : base ≤ g) (ht : t = 110 ∨ t = 113) (h : Bk w g t cs) (hK : Kq base a0 w) : Kq base a0 (set5c w g o a b c d e) := by
  have h1 := h.set_ o a
  have h2 := h1.set_ (o + 1) b
  have h3 := h2.set_ (o + 2) c
  have h4 := h3.set_ (o + 3) d
  have k1 := hK.setG hg h ht o a
  have k2 := k1.setG hg h1 ht (o + 1) b
  have k3 := k2.setG hg h2 ht (o + 2) c
  have k4 := k3.setG hg h3 ht (o + 3) d
  exact k4.setG hg h4 ht (o + 4) e

theorem fly_close {base g g3 k n c3 : Nat} {pre post Y X : List Value} {E D N S : Value} {f : Fl} {fs : List Fl} {w w6 : World} (hX : X.length = 5)
    (hL : (pre ++ (flCs fs).take (k * 5)).length = pre.length + k * 5) (hG : Bk w6 g3 113 ((pre ++ (flCs fs).take (k * 5)) ++ (X ++ (Y ++ post))).toArray)
    (hB : Bk w6 g 110 #[E, D, N, S, .slice (some ⟨g3, pre.length, none⟩) (n + 1) c3]) (hK : Kq base w w6) (hg : base ≤ g3) (hne : g ≠ g3) (hY : Y = (flCs fs).drop (k * 5)) (hn : n = fs.length) (hk : k ≤ n)
    (hall : ∀ (j : Nat) (x : Fl), fs[j]? = some x → k ≤ j → f.due < x.due) (hle : ∀ (j : Nat) (x : Fl), fs[j]? = some x → j + 1 = k → x.due ≤ f.due)
    (hp : (c3 - (n + 1)) * 5 ≤ post.length) (hc : n + 1 ≤ c3) (hm : c3 ≤ maxLen) :
    FlyPost base g E D N S f fs w (set5c w6 g3 (pre.length + k * 5) (.int .i64 f.due) (.int .i64 f.num) (.int .i64 f.fr) (.int .i64 f.to) (.slice f.A f.n f.c)).drew :=
  fly_close0 ((set5c_bk _ _ _ _ _ hX hL.symm hG).drewN 1) ((set5c_far _ _ _ _ _ hne hB).drewN 1) (set5c_kq _ _ _ _ _ hg (.inr rfl) hG hK).drew hg hY hn hk hall hle hp hc hm

set_option maxHeartbeats 1600000 in
theorem fly_any (base g : Nat) (E D N S : Value) (f : Fl) (fs : List Fl) (A : Option Addr) (c : Nat) (w : World)
    (hbk : Bk w g 110 #[E, D, N, S, .slice A fs.length c]) (hsh : Sh w base 113 5 A fs.length c (flCs fs)) (hg : base ≤ g) (hn : fs.length ≤ 1000000) :
    Calls Try.prog 68 #[.pointer (some ⟨g, 0, none⟩), .int .i64 f.due, .int .i64 f.num, .agg #[.int .i64 f.fr, .int .i64 f.to, .slice f.A f.n f.c]] w fun e w' => e = .returned (.tuple #[]) ∧ FlyPost base g E D N S f fs w w' := by
  obtain ⟨i0, hi0, hz0, hz1, hz2⟩ := info_parts T.info113
  obtain ⟨n, hN⟩ : ∃ n, n = fs.length := ⟨_, rfl⟩
  have hgw := hbk.lt
  rw [← hN] at hbk hsh hn
  have HN := Lib.hid hN
  have hk0 := (Kq.refl (base := base) (w := w)).alloc (.cells #[.int .i64 f.fr, .int .i64 f.to, .slice f.A f.n f.c] 45)
  have hbk1 := hbk.alloc (.cells #[.int .i64 f.fr, .int .i64 f.to, .slice f.A f.n f.c] 45)
  have hp1 := Bk.new w 45 #[.int .i64 f.fr, .int .i64 f.to, .slice f.A f.n f.c]
  have hsh1 : Sh (w.alloc (.cells #[.int .i64 f.fr, .int .i64 f.to, .slice f.A f.n f.c] 45)) base 113 5 A n c (flCs fs) := hsh.keep fun _ _ _ hb => hb.alloc _
  have hc4 : (w.alloc (.cells #[.int .i64 f.fr, .int .i64 f.to, .slice f.A f.n f.c] 45)).cell? ⟨g, 4, none⟩ = some (.slice A n c) := hbk1.cell 4
  clear hN hbk hsh
  go_enter Try.func68, Try.ntmps68
  go_wp2_with fail
  obtain ⟨b0, hb0⟩ : ∃ b, b = w.heap.size := ⟨_, rfl⟩
  rw [← hb0] at hp1 ⊢
  have hb0w : w.heap.size ≤ b0 := by omega
  clear hb0
  generalize w.alloc (.cells #[.int .i64 f.fr, .int .i64 f.to, .slice f.A f.n f.c] 45) = w1 at *
  go_loopw [8] (fun i wr => wr = w1 ∧ ∃ k : Nat, k ≤ n ∧ i = .int .i64 k ∧ (∀ j x, fs[j]? = some x → k ≤ j → f.due < x.due)) (fun i _ => (intOf i).toNat)
  case atStart => exact ⟨rfl, n, Nat.le_refl _, rfl, fun j x hx hj => by have := (List.getElem?_eq_some_iff.1 hx).1; have := HN.out; omega⟩
  case round =>
    obtain ⟨rfl, k, hk, rfl, hall⟩ := hrel
    have HA := Lib.hid hall
    clear hall
    by_cases hcase : 0 < k ∧ ∀ x, fs[k - 1]? = some x → f.due < x.due
    · obtain ⟨hk1, hd⟩ := hcase
      obtain ⟨m, rfl⟩ : ∃ m, k = m + 1 := ⟨k - 1, by omega⟩
      obtain ⟨x, hx⟩ : ∃ x, fs[m]? = some x := ⟨_, List.getElem?_eq_getElem (by have := HN.out; omega)⟩
      have hdx := hd x hx
      obtain ⟨ga, o, cs, rfl, hga, hgb, hcell⟩ := hsh1.open_ (by omega)
      have hcx := hcell (m * 5) (.int .i64 x.due) (flCs_get fs m x hx 0 (by omega))
      have HX := Lib.hid hx
      clear hd hcell hx
      have e1 : ((m + 1 : Nat) : Int) - 1 = m := by omega
      go_wp2_with fail
      refine ⟨⟨trivial, m, by omega, rfl, fun j y hy hj => ?_⟩, by simp [intOf]⟩
      rcases Nat.lt_or_ge m j with h | h
      · exact HA.out j y hy h
      · obtain rfl : j = m := by omega
        have := HX.out
        rw [hy] at this
        injection this with this
        subst this; exact hdx
    · have hle : ∀ j x, fs[j]? = some x → j + 1 = k → x.due ≤ f.due := by
        intro j x hx hj
        subst hj
        by_cases h : f.due < x.due
        · exact absurd ⟨by omega, fun y hy => by simp only [Nat.add_sub_cancel] at hy; rw [hx] at hy; injection hy with hy; exact hy ▸ h⟩ hcase
        · omega
      have hstop : ¬ 0 < k ∨ (0 < k ∧ ∃ (x : Fl) (ga o : Nat) (cs : Array Value), x.due ≤ f.due ∧ A = some ⟨ga, o, none⟩ ∧ Bk wr ga 113 cs ∧ wr.cell? ⟨ga, o + (k - 1) * 5, none⟩ = some (.int .i64 x.due)) := by
        rcases Nat.eq_zero_or_pos k with h | h
        · exact .inl (by omega)
        · obtain ⟨m, rfl⟩ : ∃ m, k = m + 1 := ⟨k - 1, by omega⟩
          obtain ⟨x, hx⟩ : ∃ x, fs[m]? = some x := ⟨_, List.getElem?_eq_getElem (by have := HN.out; omega)⟩
          obtain ⟨ga, o, cs, rfl, hga, hgb, hcell⟩ := hsh1.open_ (by omega)
          exact .inr ⟨h, x, ga, o, cs, hle m x hx rfl, rfl, hgb, hcell (m * 5) (.int .i64 x.due) (flCs_get fs m x hx 0 (by omega))⟩
      have HLE := Lib.hid hle
      clear hle hcase
      have f4 := hbk1.frozen 4
      have hbw : base ≤ wr.heap.size := by have := hp1.lt; omega
      have hnn : n + 1 ≤ 1000001 := by omega
      have e3 : ((k : Int) - 1).toNat = k - 1 := by omega
      have hsh2 : Sh (wr.alloc (.cells #[.int .i64 0, .int .i64 0, .int .i64 0, .int .i64 0, .slice none 0 0] 113)) base 113 5 A n c (flCs fs) := hsh1.keep fun _ _ _ hb => hb.alloc _
      rcases hstop with hkz | ⟨hkz, x, ga, o, cs, hxd, hAA, hgb, hcx⟩
      rotate_left
      subst hAA
      all_goals
        go_wp2_with
          (at_builtin
           go_must (refine wpList_append_sh _ rfl (.tmp 35) (.tmp 37) _ rfl base 113 i0 _ 5 56 Try.underlying108 hi0 hz0 hz1 hz2 rfl (by decide) _ n c (flCs fs) rfl hsh2 wr.heap.size 1 113 #[.int .i64 0, .int .i64 0, .int .i64 0, .int .i64 0, .slice none 0 0] rfl (Bk.new _ _ _) rfl ?c1 (n + 1) rfl ?c2 ?c3 ?c4 ?_)
           case c1 => simp [Value.oneCell']
           case c2 => unfold maxLen; omega
           case c3 => omega
           case c4 => simp; omega
           intro g3 pre post c3 w3 hg3 hbk3 hc3 hm3 hp3 hgr3 hat3
           have hbk4 := (hbk1.alloc (.cells #[.int .i64 0, .int .i64 0, .int .i64 0, .int .i64 0, .slice none 0 0] 113)).grown hgr3 (hsh2.ne (hbk1.alloc _) (by decide))
           have c4' : ∃ u, w3.cell? ⟨g, 4, none⟩ = some u := ⟨_, hbk4.cell 4⟩
           obtain ⟨u4, c4'⟩ := c4'
           have f4' := hbk4.frozen 4)
      all_goals
        have hK4 := (hk0.alloc (.cells #[.int .i64 0, .int .i64 0, .int .i64 0, .int .i64 0, .slice none 0 0] 113)).grown hgr3 (hsh2.mine (.inr rfl))
        have hK5 := hK4.setG hg hbk4 (.inl rfl) 4 (.slice (some ⟨g3, pre.length, none⟩) (n + 1) c3)
        have hB5 := hbk4.set_ 4 (.slice (some ⟨g3, pre.length, none⟩) (n + 1) c3)
        have hne : g3 ≠ g := Bk.ne_ hbk3.out hbk4 (by decide)
        have hne' : g ≠ g3 := Ne.symm hne
        have hG5 := hbk3.out.far (p := ⟨g, 4, none⟩) hne (.slice (some ⟨g3, pre.length, none⟩) (n + 1) c3)
        have hbw5 : base ≤ (w3.setCell ⟨g, 4, none⟩ (.slice (some ⟨g3, pre.length, none⟩) (n + 1) c3)).heap.size := by have := hbk4.lt; simp [World.setCell]; omega
        have hP5 := hK5.block
        replace hp1 : Bk (w3.setCell ⟨g, 4, none⟩ (.slice (some ⟨g3, pre.length, none⟩) (n + 1) c3)) b0 45 #[.int .i64 f.fr, .int .i64 f.to, .slice f.A f.n f.c] := (((hp1.alloc _).grown hgr3 (fun e => (hsh2.ne (hp1.alloc _) (by decide)) e)).far (p := ⟨g, 4, none⟩) (Bk.ne_ (((hp1.alloc _).grown hgr3 (hsh2.ne (hp1.alloc _) (by decide)))) hbk4 (by decide)) _)
        have HK5 := Lib.hid hK5
        have HB5 := Lib.hid hB5
        have HG5 := Lib.hid hG5
        clear hP5 hK4 hK5 hG5 hbk4 hbk3 hgr3 hat3 c4' f4' hsh2 hsh1 hbk1 hc4 hk0 hB5 f4
        generalize w3.setCell ⟨g, 4, none⟩ (.slice (some ⟨g3, pre.length, none⟩) (n + 1) c3) = W at *
        have q4 : W.cell? ⟨g, 4, none⟩ = some (.slice (some ⟨g3, pre.length, none⟩) (n + 1) c3) := HB5.out.cell 4
        obtain ⟨Y, hY⟩ : ∃ Y, Y = (flCs fs).drop (k * 5) := ⟨_, rfl⟩
        have hYl : Y.length = (n - k) * 5 := by rw [hY, List.length_drop, flCs_length]; have := HN.out; omega
        have hY1 : ∀ v ∈ Y, v.oneCell' = true := fun v hv => flCs_one fs v (by rw [hY] at hv; exact List.mem_of_mem_drop hv)
        obtain ⟨cur, hcur⟩ : ∃ cur, cur = pre ++ (flCs fs ++ [Value.int IntKind.i64 0, Value.int IntKind.i64 0, Value.int IntKind.i64 0, Value.int IntKind.i64 0, Value.slice none 0 0] ++ post) := ⟨_, rfl⟩
        have hcl : cur.length = pre.length + ((n + 1) * 5 + post.length) := by rw [hcur]; simp [flCs_length]; have := HN.out; omega
        have hYc : ∀ j v, Y[j]? = some v → W.cell? ⟨g3, pre.length + k * 5 + j, none⟩ = some v := by
          intro j v hv
          refine (HG5.out.cell _).trans ?_
          have hj : k * 5 + j < (flCs fs).length := by
            have := (List.getElem?_eq_some_iff.1 hv).1
            rw [flCs_length]; have := HN.out; omega
          rw [List.getElem?_toArray, Nat.add_assoc, List.getElem?_append_right (by omega), Nat.add_sub_cancel_left, List.append_assoc, List.getElem?_append_left hj]
          rw [hY, List.getElem?_drop] at hv
          exact hv
        have hG6 : W.heap[g3]? = some (.cells cur.toArray 113 (0, 0)) := by rw [hcur]; exact HG5.out
        have HYC := Lib.hid hYc
        have HY1 := Lib.hid hY1
        have HYL := Lib.hid hYl
        have HCL := Lib.hid hcl
        have HG6 := Lib.hid hG6
        have HY := Lib.hid hY
        have HCUR := Lib.hid hcur
        have T113 : (Try.prog.info? 113).map (·.size) = some 5 := by rw [hi0]; simp [hz1]
        have TH := Lib.hid T113
        clear hY hYl hY1 hcur hcl hYc hG6 T113 HG5
        obtain ⟨k1, hk1⟩ : ∃ k1, k1 = k + 1 := ⟨_, rfl⟩
        have iw : IntKind.i64.wrap ((k : Int) + 1) = (k1 : Int) := by
          rw [show (k : Int) + 1 = (k1 : Int) by omega]; exact Lib.wrap_i64_small k1 (by omega)
        have i1 : (k1 : Int) ≤ (n : Int) + 1 := by omega
        have i2 : k1 ≤ n + 1 := by omega
        have i3 : (k : Int) ≤ (n : Int) + 1 := by omega
        have i4 : c3 = k1 → n - k = 0 := by omega
        have i5 : c3 = k → n - k = 0 := by omega
        have i6 : c3 ≠ k := by omega
        have HK1 := Lib.hid hk1
        clear hk1
        go_region_law
          (refine step_copy_spliceN rfl (.tmp 47) (.tmp 53) 108 108 rfl 113 5 Try.underlying108 TH.out _ _ _ _ _ _ rfl rfl g3 (pre.length + (k + 1) * 5) cur 113 HG6.out Y (n - k) ?c1 HYL.out ?c2 ?c3 HY1.out ?_
           case c1 => have := HK1.out; exact (by omega : n - k = min (n + 1 - k) (n + 1 - k1))
           case c2 =>
             intro hpos
             have hc31 : c3 ≠ k1 := fun e => by have := i4 e; omega
             have hc32 : c3 ≠ k := fun e => by have := i5 e; omega
             have := HK1.out
             refine ⟨by rw [if_neg hc31, this], ⟨g3, pre.length + k * 5, none⟩, rfl, fun j v hv => ?_⟩
             have := HYC.out j v hv
             rw [Addr.add_lit]
             exact this
           case c3 => have := HCL.out; have := HYL.out; omega
           intro w6 hb6 hgr6)
      all_goals
        generalize (if c3 = k1 then some (⟨g3, pre.length, none⟩ : Addr) else some ⟨g3, pre.length + k1 * 5, none⟩) = dp at *
        have HB6 : Bk w6 g 110 #[E, D, N, S, .slice (some ⟨g3, pre.length, none⟩) (n + 1) c3] := (HB5.out.drewN 1).grown hgr6 (fun e => hne' (by injection e))
        have hp6 : Bk w6 b0 45 #[.int .i64 f.fr, .int .i64 f.to, .slice f.A f.n f.c] := (hp1.drewN 1).grown hgr6 (fun e => by injection e with e; exact Bk.ne_ hp1 (show Bk W g3 113 _ from HG6.out) (by decide) e)
        have hK6 := HK5.out.drew.grown hgr6 (fun q hq => by injection hq with hq; subst hq; exact ⟨hg3, 113, _, HG6.out, .inr rfl⟩)
        obtain ⟨X, hX, hsp⟩ := splice_fly pre (flCs fs) [Value.int IntKind.i64 0, Value.int IntKind.i64 0, Value.int IntKind.i64 0, Value.int IntKind.i64 0, Value.slice none 0 0] post k n (by rw [flCs_length, HN.out]) rfl hk
        rw [← HCUR.out, ← HY.out] at hsp
        have hG7 : Bk w6 g3 113 ((pre ++ (flCs fs).take (k * 5)) ++ (X ++ (Y ++ post))).toArray := by rw [← hsp]; exact hb6.out
        clear hsp hb6
        obtain ⟨x1, x2, x3, x4, x5, rfl⟩ := list5 X hX
        have hL : (pre ++ (flCs fs).take (k * 5)).length = pre.length + k * 5 := by rw [List.length_append, List.length_take, flCs_length]; have := HN.out; omega
        have hcc : ∀ j (u : Value), j < 5 → [x1, x2, x3, x4, x5][j]? = some u → w6.cell? ⟨g3, pre.length + k * 5 + j, none⟩ = some u := by
          intro j u hj hu
          refine (hG7.cell _).trans ?_
          rw [List.getElem?_toArray, ← hL, List.getElem?_append_right (by omega), Nat.add_sub_cancel_left, List.getElem?_append_left (by simpa using hj)]
          exact hu
        have d0 : w6.cell? ⟨g3, pre.length + k * 5, none⟩ = some x1 := hcc 0 x1 (by omega) rfl
        have d1 := hcc 1 x2 (by omega) rfl
        have d2 := hcc 2 x3 (by omega) rfl
        have d3 := hcc 3 x4 (by omega) rfl
        have d4 := hcc 4 x5 (by omega) rfl
        have z0 : w6.frozen? ⟨g3, pre.length + k * 5, none⟩ = false := hG7.frozen _
        have z1 : w6.frozen? ⟨g3, pre.length + k * 5 + 1, none⟩ = false := hG7.frozen _
        have z2 : w6.frozen? ⟨g3, pre.length + k * 5 + 2, none⟩ = false := hG7.frozen _
        have z3 : w6.frozen? ⟨g3, pre.length + k * 5 + 3, none⟩ = false := hG7.frozen _
        have z4 : w6.frozen? ⟨g3, pre.length + k * 5 + 4, none⟩ = false := hG7.frozen _
        have a4 : w6.cell? ⟨g, 4, none⟩ = some (.slice (some ⟨g3, pre.length, none⟩) (n + 1) c3) := HB6.cell 4
        have b0' : w6.cell? ⟨b0, 0, none⟩ = some (.int .i64 f.fr) := hp6.cell 0
        have b1' : w6.cell? ⟨b0, 1, none⟩ = some (.int .i64 f.to) := hp6.cell 1
        have b2' : w6.cell? ⟨b0, 2, none⟩ = some (.slice f.A f.n f.c) := hp6.cell 2
        have n3 : g3 ≠ b0 := fun e => Bk.ne_ hG7 hp6 (by decide) e
        have n4 : b0 ≠ g3 := Ne.symm n3
        have HG7 := Lib.hid hG7
        have HBB6 := Lib.hid HB6
        have j1 : (k : Int) < (n : Int) + 1 := by omega
        clear hcc hG7 HB6 hp6 hp1 q4 hgr6
        go_wp2_with fail
        go_region
      all_goals
        refine Great.bodyPost_end0 rfl rfl ?_
        exact ⟨rfl, fly_close hX hL HG7.out HBB6.out hK6 hg3 hne' HY.out HN.out hk HA.out HLE.out hp3.out hc3 hm3⟩

end Go.Proofs.Ytlgcdcjfobfoiaa
