/-
  The contract of tourref4.cells. Conditions: valid components that can be read.
-/
import Derived.Test.YtnidcmhfbkdioaaOd
import Derived.Test.YtnidcmhfbkdioaaMz
namespace Go.Proofs.Ytnidcmhfbkdioaa
open Go.RowKit
set_option maxRecDepth 100000

theorem chF_pick {α : Type} [DecidableEq α] (o x y : α) : pick o x y = (if chF (decide (x = y)) (decide (o = x)) (decide (o = y)) = 2 then y else x, decide (chF (decide (x = y)) (decide (o = x)) (decide (o = y)) = 0)) := by
  unfold pick chF
  by_cases h1 : x = y
  · simp [h1]
  · by_cases h2 : x = o
    · subst h2
      simp [h1]
    · by_cases h3 : y = o
      · subst h3
        simp [h1, Ne.symm h1]
      · simp [h1, h2, h3, Ne.symm h2, Ne.symm h3]
theorem chF_val (o x y : Int) : valF o x y = (if chF (decide (x = y)) (decide (o = x)) (decide (o = y)) = 2 then y else x) ∧ valB o x y = decide (chF (decide (x = y)) (decide (o = x)) (decide (o = y)) = 0) := by
  unfold valF valB chF
  by_cases h1 : x = y
  · simp [h1]
  · by_cases h2 : x = o
    · subst h2
      simp [h1]
      omega
    · by_cases h3 : y = o
      · subst h3
        simp [h1, Ne.symm h1]
      · simp [h1, h2, h3, Ne.symm h2, Ne.symm h3]
theorem chF_3 (p q r : Bool) : chF p q r = 0 ∨ chF p q r = 1 ∨ chF p q r = 2 := by
  unfold chF; split
  · simp
  · split
    · simp
    · split <;> simp

theorem own_lo3 {w : World} {base base' size n : Nat} {e : TypeId} {v : Value} {xs : List Value} (h : w.ownsRow base e size v n xs) (hb : base' ≤ base) : w.ownsRow base' e size v n xs := by
  refine ⟨h.1, ?_⟩
  rcases h.2 with h1 | ⟨g, cap, cur, h1, h2, h3⟩
  · exact .inl h1
  · exact .inr ⟨g, cap, cur, h1, Nat.le_trans hb h2, h3⟩
theorem own_at2 {w : World} {base n c : Nat} {e : TypeId} {A : Option Addr} {xs : List Value} (h : w.ownsRow base e 1 (.slice A n c) n xs) (hn : 0 < n) : ∃ g, A = some ⟨g, 0, none⟩ ∧ base ≤ g ∧ g < w.heap.size := by
  obtain ⟨g, cap, hv, h1, h2⟩ := h.form hn
  injection hv with hA
  exact ⟨g, hA, h1, h2⟩
theorem valsC_len (s k : Int) (o x y : List Int) (m : Nat) : (valsC s k o x y m).length ≤ m := by
  unfold valsC
  rw [List.length_map]
  exact Nat.le_trans (List.length_filter_le _ _) (by simp)
set_option maxHeartbeats 800000 in
theorem cloneInts_some (a : Addr) (n c B : Nat) (xs : List Value) (w : World) (hr : Rd w B 1 (some a) n xs) (h1 : ∀ u ∈ xs, u.oneCell' = true) (hB : B ≤ w.heap.size) (hs : n * 8 ≤ 140737488355328) :
    Calls Try.prog 103 #[.slice (some a) n c] w fun e w' => ∃ g c', e = .returned (.slice (some ⟨g, 0, none⟩) n c') ∧ w'.ownsRow w.heap.size 3 1 (.slice (some ⟨g, 0, none⟩) n c') n xs ∧ Below w.heap.size w w' := by
  obtain ⟨i0, hi0, hz0, hz1, hz2⟩ := info_parts T.info3
  have hn := fun wx => Lib.run_eql_slice_nil (P := Try.prog) wx 30 3 (some a) n c 0 0 Try.underlying30
  go_enter Try.func103, Try.ntmps103
  go_wp2_with
    (at_builtin
     go_must (refine wpList_append_rd _ rfl (.tmp 5) (.tmp 6) _ rfl w.heap.size 3 i0 (.int .i64 0) 1 8 Try.underlying30 hi0 hz0 hz1 hz2 rfl (by decide) (.slice (some ⟨w.heap.size, 0, none⟩) 0 0) 0 [] rfl (World.ownsRow_lit w #[] 0 (Nat.le_refl _) (by decide) rfl) B (some a) n c xs rfl (hr.below ((Below.refl B w).alloc hB _)) h1 ?c2 ?c3 ?c4 ?_)
     case c2 => unfold maxLen; omega
     case c3 => omega
     case c4 => simp
     intro A' c' w1 hown1 hg1 hat1)
  go_ret
  simp only [Nat.zero_add, List.nil_append] at hown1
  have hb : Below w.heap.size w w1 := ((Below.refl _ _).alloc (Nat.le_refl _) _).grown hg1 (by simp) (by simp [Value.ownBlock])
  obtain ⟨g, hg⟩ : ∃ g, A' = some ⟨g, 0, none⟩ := by
    rcases hown1.2 with ⟨h, _⟩ | ⟨g, cap, cur, h, _⟩
    · injection h with h1
      subst h1
      rcases hat1 with h | h <;> simp [Value.ownBlock] at h
    · injection h with h1
      exact ⟨g, h1⟩
  subst hg
  exact ⟨g, c', by simp, hown1, hb⟩
/-- A slice of a row of its own, or nil. -/
def OptT (w : World) (H : Nat) (A : Option Addr) (n c : Nat) (o : Option (List Int)) : Prop :=
  (o = none ∧ A = none ∧ n = 0 ∧ c = 0) ∨ ∃ v g, o = some v ∧ A = some ⟨g, 0, none⟩ ∧ n = v.length ∧ w.ownsRow H 3 1 (.slice A n c) n (v.map (Value.int .i64))
section
variable {w w' : World} {H : Nat} {A : Option Addr} {n c : Nat} {o : Option (List Int)}
theorem OptT.kx {B : Nat} {F : List TypeId} (h : OptT w H A n c o) (hq : Kx B F w w') (h3 : (3 : TypeId) ∉ F) : OptT w' H A n c o := by
  rcases h with h | ⟨v, g, h1, h2, h4, h5⟩
  · exact .inl h
  · exact .inr ⟨v, g, h1, h2, h4, hq.own h5 h3⟩
theorem OptT.below (h : OptT w H A n c o) (hb : Below w.heap.size w w') : OptT w' H A n c o := h.kx (F := []) (Kx.of_below (B := 0) hb) (by simp)
theorem OptT.v (h : OptT w H A n c o) : OptV w w.heap.size A n c o := by
  rcases h with h | ⟨v, g, h1, h2, h4, h5⟩
  · exact .inl h
  · have hc := own_cap2 h5
    exact .inr ⟨v, ⟨g, 0, none⟩, h1, h2, h4, hc.1, hc.2, Rd.of_own h5⟩
theorem OptT.of_vals {w0 : World} {e : Ending} (h : ValsP w0 o e w') (hH : H ≤ w0.heap.size) : ∃ A n c, e = .returned (.slice A n c) ∧ OptT w' H A n c o ∧ Below w0.heap.size w0 w' := by
  obtain ⟨hb, h⟩ := h
  rcases h with ⟨h1, h2⟩ | ⟨v, g, c, h1, h2, h3⟩
  · exact ⟨none, 0, 0, h2, .inl ⟨h1, rfl, rfl, rfl⟩, hb⟩
  · exact ⟨_, _, _, h2, .inr ⟨v, g, h1, rfl, rfl, own_lo3 h3 hH⟩, hb⟩
end

/-- The frame of cells: the blocks, and the components collected. -/
structure LK (H hx b5 r : Nat) (e g : Int) (nine : Array Value) (ov xv yv : List Cv) (wr : World) (k q : Nat) (OA : Option Addr) (oc : Nat) (l : List Cm) : Prop where
  b5 : Bk wr b5 204 nine
  br : Bk wr r 147 #[.int .i64 0, .int .i64 0, .slice none 0 0]
  bx : Bk wr hx 147 #[.int .i64 e, .int .i64 g, .slice OA q oc]
  own : wr.ownsRow H 166 2 (.slice OA q oc) q (cmCs l)
  len : q = l.length
  ok : ∀ z ∈ l, CmY wr 0 z
  eq : l.map Cm.p = compsF k ov xv yv
  fr : Fr H 0 l
  lo : H ≤ hx
  ne : r ≠ hx
section
variable {H hx b5 r : Nat} {e g : Int} {nine : Array Value} {ov xv yv : List Cv} {wr w' : World} {k q : Nat} {OA : Option Addr} {oc : Nat} {l : List Cm}
theorem LK.kx {B : Nat} {F : List TypeId} (h : LK H hx b5 r e g nine ov xv yv wr k q OA oc l) (hq : Kx B F wr w') (h204 : (204 : TypeId) ∉ F) (h3 : (3 : TypeId) ∉ F) (h147 : (147 : TypeId) ∉ F) (h166 : (166 : TypeId) ∉ F) : LK H hx b5 r e g nine ov xv yv w' k q OA oc l :=
  ⟨hq.bk h.b5 h204, hq.bk h.br h147, hq.bk h.bx h147, hq.own h.own h166, h.len, fun z hz => (h.ok z hz).keep (hq.mono (Nat.zero_le _) (fun _ h => h)) h3, h.eq, h.fr, h.lo, h.ne⟩
theorem LK.below (h : LK H hx b5 r e g nine ov xv yv wr k q OA oc l) (hb : Below wr.heap.size wr w') : LK H hx b5 r e g nine ov xv yv w' k q OA oc l :=
  h.kx (F := []) (Kx.of_below (B := 0) hb) (by simp) (by simp) (by simp) (by simp)
theorem LK.none_ (h : LK H hx b5 r e g nine ov xv yv wr k q OA oc l) (hn : compF (findC ov k) (findC xv k) (findC yv k) = none) : LK H hx b5 r e g nine ov xv yv wr (k + 1) q OA oc l :=
  ⟨h.b5, h.br, h.bx, h.own, h.len, h.ok, by rw [compsF_step, hn, h.eq]; simp [optC], h.fr, h.lo, h.ne⟩
theorem LK.snoc (h : LK H hx b5 r e g nine ov xv yv wr k q OA oc l) {w8 : World} {g8 c8 : Nat} {z : Cm} {o : Obj} (hz : CmY wr 0 z) (hfr : ∀ b o, z.A = some ⟨b, o, none⟩ → H ≤ b) (hzk : z.k = k) (hn : compF (findC ov k) (findC xv k) (findC yv k) = some z.vals)
    (hown8 : w8.ownsRow H 166 2 (.slice (some ⟨g8, 0, none⟩) (q + 1) c8) (q + 1) (cmCs l ++ [.int .i64 z.k, .slice z.A z.n z.c])) (hg8 : (wr.alloc o).grownBy w8 (Value.slice OA q oc).ownBlock) :
    LK H hx b5 r e g nine ov xv yv (w8.setCell ⟨hx, 2, none⟩ (.slice (some ⟨g8, 0, none⟩) (q + 1) c8)) (k + 1) (q + 1) (some ⟨g8, 0, none⟩) c8 (l ++ [z]) ∧ Kx H [166, 147] wr (w8.setCell ⟨hx, 2, none⟩ (.slice (some ⟨g8, 0, none⟩) (q + 1) c8)) := by
  have hq7 : Kx H [166] wr w8 := ((Kx.refl (B := H)).alloc _).grown (h.own.alloc _) hg8 (Nat.le_refl _) (by simp)
  have bo := hq7.bk h.bx (by decide)
  have hset : Kx H [147] w8 (w8.setCell ⟨hx, 2, none⟩ (.slice (some ⟨g8, 0, none⟩) (q + 1) c8)) := Kx.set Kx.refl bo h.lo (by simp) 2 _
  refine ⟨⟨hset.bk (hq7.bk h.b5 (by decide)) (by decide), (hq7.bk h.br (by decide)).far (p := ⟨hx, 2, none⟩) h.ne _, by simpa using bo.set_ 2 (.slice (some ⟨g8, 0, none⟩) (q + 1) c8), ?_, by simp [h.len], fun x hx' => ?_, ?_, fun x hx' hn b o hA => ?_, h.lo, h.ne⟩, (hq7.mono (Nat.le_refl _) (by simp)).trans (hset.mono (Nat.le_refl _) (by simp))⟩
  · rw [show cmCs (l ++ [z]) = cmCs l ++ [.int .i64 z.k, .slice z.A z.n z.c] by simp [cmCs, Cm.cs]]
    exact hset.own hown8 (by decide)
  · rcases List.mem_append.1 hx' with hx' | hx'
    · exact ((h.ok x hx').keep (hq7.mono (Nat.zero_le _) (fun _ h => h)) (by decide)).keep (hset.mono (Nat.zero_le _) (fun _ h => h)) (by decide)
    · rw [show x = z by simpa using hx']; exact (hz.keep (hq7.mono (Nat.zero_le _) (fun _ h => h)) (by decide)).keep (hset.mono (Nat.zero_le _) (fun _ h => h)) (by decide)
  · rw [List.map_append, h.eq, compsF_step, hn]
    show _ ++ [(z.k, z.vals)] = _ ++ [((k : Int), z.vals)]
    rw [hzk]
  · rcases List.mem_append.1 hx' with hx' | hx'
    · exact h.fr x hx' hn b o hA
    · rw [show x = z by simpa using hx'] at hA; exact .inr (hfr b o hA)
end
/-- The clashes, in a row of their own. -/
structure CR (H : Nat) (wr : World) (CA : Option Addr) (cn cc : Nat) (L : List Cl) : Prop where
  own : wr.ownsRow H 73 4 (.slice CA cn cc) cn (clCs L)
  len : cn = L.length
theorem CR.kx {H B : Nat} {F : List TypeId} {wr w' : World} {CA : Option Addr} {cn cc : Nat} {L : List Cl} (h : CR H wr CA cn cc L) (hq : Kx B F wr w') (h73 : (73 : TypeId) ∉ F) : CR H w' CA cn cc L := ⟨hq.own h.own h73, h.len⟩
theorem CR.below {H : Nat} {wr w' : World} {CA : Option Addr} {cn cc : Nat} {L : List Cl} (h : CR H wr CA cn cc L) (hb : Below wr.heap.size wr w') : CR H w' CA cn cc L := h.kx (F := []) (Kx.of_below (B := 0) hb) (by simp)
theorem CR.snoc {H : Nat} {wr w8 : World} {CA : Option Addr} {cn cc g8 c8 : Nat} {L : List Cl} {o : Obj} {a b c d : Int} (h : CR H wr CA cn cc L) (hown8 : w8.ownsRow H 73 4 (.slice (some ⟨g8, 0, none⟩) (cn + 1) c8) (cn + 1) (clCs L ++ [.int .i64 a, .int .i64 b, .int .i64 c, .int .i64 d])) (hg8 : (wr.alloc o).grownBy w8 (Value.slice CA cn cc).ownBlock) :
    CR H w8 (some ⟨g8, 0, none⟩) (cn + 1) c8 (L ++ [(a, b, c, d)]) ∧ Kx H [73] wr w8 :=
  ⟨⟨by rw [clCs_snoc]; exact hown8, by simp [h.len]⟩, ((Kx.refl (B := H)).alloc _).grown (h.own.alloc _) hg8 (Nat.le_refl _) (by simp)⟩

theorem Kx.setNew {w w' : World} {B g : Nat} {F : List TypeId} (h : Kx B F w w') (hg : w.heap.size ≤ g) (i : Nat) (u : Value) : Kx B F w (w'.setCell ⟨g, i, none⟩ u) :=
  ⟨by simp [World.setCell]; exact h.size, fun b h1 h2 => (Below.heap_setCell _ _ _ _ (by show b ≠ g; omega)).trans (h.low b h1 h2), fun b t cs h1 h2 => (h.ty b t cs h1 h2).far (p := ⟨g, i, none⟩) (by show b ≠ g; have := h1.lt; omega) u⟩
def it3 (O X Y : It) (i : Nat) : It := if i = 0 then O else if i = 1 then X else Y
abbrev Tr3 := Option Addr × Nat × Nat
def sl3 (t : Tr3) : Value := .slice t.1 t.2.1 t.2.2
theorem nine_at {w : World} {b5 : Nat} {O X Y : It} (h : Bk w b5 204 #[.int .i64 O.e, .int .i64 O.g, .slice O.A O.n O.c, .int .i64 X.e, .int .i64 X.g, .slice X.A X.n X.c, .int .i64 Y.e, .int .i64 Y.g, .slice Y.A Y.n Y.c]) {i : Nat} (hi : i < 3) :
    w.cell? ⟨b5, i * 3, none⟩ = some (.int .i64 (it3 O X Y i).e) ∧ w.cell? ⟨b5, i * 3 + 1, none⟩ = some (.int .i64 (it3 O X Y i).g) ∧ w.cell? ⟨b5, i * 3 + 2, none⟩ = some (.slice (it3 O X Y i).A (it3 O X Y i).n (it3 O X Y i).c) := by
  have h0 : i = 0 ∨ i = 1 ∨ i = 2 := by omega
  rcases h0 with rfl | rfl | rfl
  · exact ⟨h.cell 0, h.cell 1, h.cell 2⟩
  · exact ⟨h.cell 3, h.cell 4, h.cell 5⟩
  · exact ⟨h.cell 6, h.cell 7, h.cell 8⟩
theorem three_at {w : World} {hv : Nat} {T : Nat → Tr3} (h : Bk w hv 281 #[sl3 (T 0), sl3 (T 1), sl3 (T 2)]) {i : Nat} (hi : i < 3) : w.cell? ⟨hv, i, none⟩ = some (sl3 (T i)) := by
  have h0 : i = 0 ∨ i = 1 ∨ i = 2 := by omega
  rcases h0 with rfl | rfl | rfl
  · exact h.cell 0
  · exact h.cell 1
  · exact h.cell 2
theorem three_set {w : World} {hv : Nat} {T : Nat → Tr3} (h : Bk w hv 281 #[sl3 (T 0), sl3 (T 1), sl3 (T 2)]) {i : Nat} (hi : i < 3) (t : Tr3) : Bk (w.setCell ⟨hv, i, none⟩ (sl3 t)) hv 281 #[sl3 ((fun j => if j = i then t else T j) 0), sl3 ((fun j => if j = i then t else T j) 1), sl3 ((fun j => if j = i then t else T j) 2)] := by
  have h0 : i = 0 ∨ i = 1 ∨ i = 2 := by omega
  rcases h0 with rfl | rfl | rfl
  · simpa using h.set_ 0 (sl3 t)
  · simpa using h.set_ 1 (sl3 t)
  · simpa using h.set_ 2 (sl3 t)
theorem compF_len {o x y : Option (List Int)} {v : List Int} (h : ∀ v, (o = some v ∨ x = some v ∨ y = some v) → v.length ≤ 8) (e : compF o x y = some v) : v.length ≤ 8 := by
  by_cases hall : o.isSome = true ∧ x.isSome = true ∧ y.isSome = true
  · obtain ⟨h1, h2, h3⟩ := hall
    obtain ⟨o, rfl⟩ := Option.isSome_iff_exists.1 h1
    obtain ⟨x, rfl⟩ := Option.isSome_iff_exists.1 h2
    obtain ⟨y, rfl⟩ := Option.isSome_iff_exists.1 h3
    have e : some (valsF o x y) = some v := e
    injection e with e
    rw [← e]
    have := h x (.inr (.inl rfl))
    simpa [valsF] using this
  · rw [(compF_not (s := 0) (k := 0) hall).1] at e
    rcases pick_or o x y with h1 | h1
    · rw [h1] at e; exact h v (.inr (.inl e))
    · rw [h1] at e; exact h v (.inr (.inr e))
theorem it3_all {p : It → Prop} {O X Y : It} (h1 : p O) (h2 : p X) (h3 : p Y) (i : Nat) : p (it3 O X Y i) := by
  unfold it3; split
  · exact h1
  · split
    · exact h2
    · exact h3
theorem vcs_small {ks : List Kp2} {x : It} (h : VCs holdK ks (x.cms.map Cm.p)) : ∀ c ∈ x.cms, c.vals.length ≤ 1048576 := fun c hc => by
  obtain ⟨k, d, _, _, h3⟩ := h.ok c.p (List.mem_map_of_mem hc)
  have := holdK_small h3
  have e : c.p.2 = c.vals := rfl
  rw [e] at this
  omega

set_option maxHeartbeats 16000000 in
theorem cellsR_any {w : World} {B : Nat} (K : Nat) (sl : Int) (O X Y : It) (ks : List Kp2) (hO : ItOk w B O) (hX : ItOk w B X) (hY : ItOk w B Y) (vO : VCs holdK ks (O.cms.map Cm.p)) (vX : VCs holdK ks (X.cms.map Cm.p)) (vY : VCs holdK ks (Y.cms.map Cm.p)) (hB : B ≤ w.heap.size) (hK : K ≤ 16) :
    Calls Try.prog 110 #[.int .i64 K, .int .i64 sl, .agg #[.int .i64 O.e, .int .i64 O.g, .slice O.A O.n O.c, .int .i64 X.e, .int .i64 X.g, .slice X.A X.n X.c, .int .i64 Y.e, .int .i64 Y.g, .slice Y.A Y.n Y.c]] w fun e w' => ∃ (A : Option Addr) (n c : Nat) (cl : List Cm) (CA : Option Addr) (cn cc : Nat), e = .returned (.tuple #[.agg #[.int .i64 X.e, .int .i64 X.g, .slice A n c], .slice CA cn cc]) ∧ Hid (ItY w' 0 ⟨X.e, X.g, A, n, c, cl⟩ ∧ cl.map Cm.p = compsF K (O.cms.map Cm.p) (X.cms.map Cm.p) (Y.cms.map Cm.p) ∧ Fr w.heap.size 0 cl) ∧ Hid (CR w.heap.size w' CA cn cc (compsC sl K (O.cms.map Cm.p) (X.cms.map Cm.p) (Y.cms.map Cm.p))) ∧ Below w.heap.size w w' := by
  obtain ⟨W0, hW0⟩ : ∃ W0, W0 = ((w.alloc (.cells #[.int .i64 O.e, .int .i64 O.g, .slice O.A O.n O.c, .int .i64 X.e, .int .i64 X.g, .slice X.A X.n X.c, .int .i64 Y.e, .int .i64 Y.g, .slice Y.A Y.n Y.c] 204)).alloc (.cells #[.int .i64 0, .int .i64 0, .slice none 0 0] 147)).alloc (.cells #[.int .i64 X.e, .int .i64 X.g, .slice none 0 0] 147) := ⟨_, rfl⟩
  obtain ⟨H, hH⟩ : ∃ H, H = w.heap.size := ⟨_, rfl⟩
  obtain ⟨r, hr⟩ : ∃ r, r = H + 1 := ⟨_, rfl⟩
  obtain ⟨hx, hhx⟩ : ∃ hx, hx = r + 1 := ⟨_, rfl⟩
  have hb0 : Below w.heap.size w W0 := by rw [hW0]; exact Below.al (Below.al (Below.al (Below.refl _ _) _) _) _
  have hk5 : Bk W0 H 204 #[.int .i64 O.e, .int .i64 O.g, .slice O.A O.n O.c, .int .i64 X.e, .int .i64 X.g, .slice X.A X.n X.c, .int .i64 Y.e, .int .i64 Y.g, .slice Y.A Y.n Y.c] := by rw [hW0, hH]; exact ((Bk.new _ _ _).alloc _).alloc _
  have hkr : Bk W0 r 147 #[.int .i64 0, .int .i64 0, .slice none 0 0] := by rw [hW0, hr, hH]; exact (Bk.two _ _ _ _).alloc _
  have hkx : Bk W0 hx 147 #[.int .i64 X.e, .int .i64 X.g, .slice none 0 0] := by rw [hW0, hhx, hr, hH]; exact Bk.three _ _ _ _ _
  have HIT : Hid (∀ i wx, Below w.heap.size w wx → ItOk wx B (it3 O X Y i)) := Lib.hid fun i wx hb => it3_all (p := fun z => ItOk wx B z) (hO.below (hb.mono hB)) (hX.below (hb.mono hB)) (hY.below (hb.mono hB)) i
  have HSM : Hid (∀ i, ∀ c ∈ (it3 O X Y i).cms, c.vals.length ≤ 1048576) := Lib.hid fun i => it3_all (p := fun z => ∀ c ∈ z.cms, c.vals.length ≤ 1048576) (vcs_small vO) (vcs_small vX) (vcs_small vY) i
  have HVC : Hid (VCs holdK ks (O.cms.map Cm.p) ∧ VCs holdK ks (X.cms.map Cm.p) ∧ VCs holdK ks (Y.cms.map Cm.p)) := Lib.hid ⟨vO, vX, vY⟩
  have HWF : Hid ((Lit.int .i64 X.e).wf = true ∧ (Lit.int .i64 X.g).wf = true) := Lib.hid ⟨hX.wf1, hX.wf2⟩
  have HL0 : Hid (LK H hx H r X.e X.g #[.int .i64 O.e, .int .i64 O.g, .slice O.A O.n O.c, .int .i64 X.e, .int .i64 X.g, .slice X.A X.n X.c, .int .i64 Y.e, .int .i64 Y.g, .slice Y.A Y.n Y.c] (O.cms.map Cm.p) (X.cms.map Cm.p) (Y.cms.map Cm.p) W0 0 0 none 0 []) := Lib.hid ⟨hk5, hkr, hkx, World.ownsRow_nil _ _ _ _, rfl, (fun z hz => by cases hz), rfl, (fun z hz => by cases hz), by omega, by omega⟩
  have HC0 : Hid (CR H W0 none 0 0 (compsC sl 0 (O.cms.map Cm.p) (X.cms.map Cm.p) (Y.cms.map Cm.p))) := Lib.hid ⟨World.ownsRow_nil _ _ _ _, rfl⟩
  have HB0 := Lib.hid hb0
  have hHw : w.heap.size ≤ H := by omega
  have hHr : H < r := by omega
  have hrx : r < hx := by omega
  have HNM := Lib.hid (And.intro hH (And.intro hr hhx))
  have HCI := Lib.hid cloneInts_any
  have d50 : W0.cell? ⟨H, 3, none⟩ = some (.int .i64 X.e) := hk5.cell 3
  have d51 : W0.cell? ⟨H, 4, none⟩ = some (.int .i64 X.g) := hk5.cell 4
  obtain ⟨i1, hi1, hz10, hz11, hz12⟩ := info_parts T.infoCm
  obtain ⟨iC, hiC, hzC0, hzC1, hzC2⟩ := info_parts T.infoCl
  clear hO hX hY vO vX vY hb0 hk5 hkr hkx hH hr hhx d50 d51
  go_enter Try.func110, Try.ntmps110
  go_wp2_with fail
  rw [← hW0, ← HNM.out.1, ← HNM.out.2.1, ← HNM.out.2.2]
  clear hW0
  go_loopw [9, 20] (fun cv iv wr => ∃ (k q oc : Nat) (OA : Option Addr) (cl : List Cm) (CA : Option Addr) (cn cc : Nat), k ≤ K ∧ q ≤ k ∧ iv = .int .i64 k ∧ cv = .slice CA cn cc ∧ Hid (LK H hx H r X.e X.g #[.int .i64 O.e, .int .i64 O.g, .slice O.A O.n O.c, .int .i64 X.e, .int .i64 X.g, .slice X.A X.n X.c, .int .i64 Y.e, .int .i64 Y.g, .slice Y.A Y.n Y.c] (O.cms.map Cm.p) (X.cms.map Cm.p) (Y.cms.map Cm.p) wr k q OA oc cl) ∧ Hid (CR H wr CA cn cc (compsC sl k (O.cms.map Cm.p) (X.cms.map Cm.p) (Y.cms.map Cm.p))) ∧ Hid (Below w.heap.size w wr)) (fun _ iv _ => K - (intOf iv).toNat)
  case atStart => exact ⟨0, 0, 0, none, [], none, 0, 0, Nat.zero_le _, Nat.le_refl _, rfl, rfl, HL0, HC0, HB0⟩
  case round =>
    clear HL0 HC0 HB0
    obtain ⟨k, q, oc, OA, cl, CA, cn, cc, hk, hqk, rfl, rfl, HL, HC, HB⟩ := hrel
    obtain ⟨wo, rfl⟩ : ∃ x, x = wr := ⟨_, rfl⟩
    by_cases hlt : k < K
    · have hkz : (k : Int) < K := by omega
      obtain ⟨hv, hhv⟩ : ∃ hv, hv = wo.heap.size := ⟨_, rfl⟩
      obtain ⟨w1, hw1⟩ : ∃ w1, w1 = wo.alloc (.cells #[.slice none 0 0, .slice none 0 0, .slice none 0 0] 281) := ⟨_, rfl⟩
      have hB1 : Below wo.heap.size wo w1 := by rw [hw1]; exact Below.al (Below.refl _ _) _
      have HB1 := Lib.hid hB1
      have HT0 : Hid (Bk w1 hv 281 #[sl3 ((fun _ => (none, 0, 0) : Nat → Tr3) 0), sl3 ((fun _ => (none, 0, 0) : Nat → Tr3) 1), sl3 ((fun _ => (none, 0, 0) : Nat → Tr3) 2)]) := Lib.hid (by rw [hw1, hhv]; exact Bk.new _ _ _)
      have HHV := Lib.hid hhv
      have hHo : H ≤ wo.heap.size := by have := HB.out.size; have := HNM.out.1; omega
      clear hhv hB1
      go_wp2_with fail
      rw [← hw1, ← HHV.out]
      clear hw1
      go_loopw [23] (fun iv wx => ∃ (i : Nat) (T : Nat → Tr3), i ≤ 3 ∧ iv = .int .i64 i ∧ Hid (Bk wx hv 281 #[sl3 (T 0), sl3 (T 1), sl3 (T 2)]) ∧ Hid (∀ j, j < i → OptT wx H (T j).1 (T j).2.1 (T j).2.2 (findC ((it3 O X Y j).cms.map Cm.p) k)) ∧ Hid (Below wo.heap.size wo wx)) (fun iv _ => 3 - (intOf iv).toNat)
      case atStart => exact ⟨0, fun _ => (none, 0, 0), Nat.zero_le _, rfl, HT0, Lib.hid (fun j hj => by omega), HB1⟩
      case round =>
        clear HT0 HB1
        obtain ⟨i, T, hi, rfl, HT, HO, HBx⟩ := hrel
        by_cases hi3 : i < 3
        · have hiz : (i : Int) < 3 := by omega
          have hi0 : (0 : Int) ≤ i := by omega
          have hLx := HL.out.below HBx.out
          obtain ⟨n0, n1, n2⟩ := nine_at hLx.b5 hi3
          have hBw : Below w.heap.size w wr := HB.out.trans (HBx.out.mono HB.out.size)
          have hval := valsR_any (w := wr) (it3 O X Y i) k (HIT.out i wr hBw) (HSM.out i)
          obtain ⟨o, ho⟩ : ∃ o, o = findC ((it3 O X Y i).cms.map Cm.p) k := ⟨_, rfl⟩
          rw [← ho] at hval
          have HOO := Lib.hid ho
          clear ho
          generalize hxe : (it3 O X Y i).e = xe at *
          generalize hxg : (it3 O X Y i).g = xg at *
          generalize hxA : (it3 O X Y i).A = xA at *
          generalize hxn : (it3 O X Y i).n = xn at *
          generalize hxc : (it3 O X Y i).c = xc at *
          have HVAL := Lib.hid hval
          have hwx : wo.heap.size ≤ wr.heap.size := HBx.out.size
          clear hLx hval hBw hxe hxg hxA hxn hxc
          go_wp2_with fail
          (with_reducible refine HVAL.out.mono ?_)
          rintro e w3 hv3
          obtain ⟨A3, n3, c3, rfl, hT3, hb3⟩ := OptT.of_vals hv3 (H := H) (by omega)
          have hk3 := HT.out.below2 hb3
          have k3 : w3.cell? ⟨hv, i, none⟩ = some (.slice (T i).1 (T i).2.1 (T i).2.2) := three_at hk3 hi3
          have f3 := hk3.frozen i
          have HT3 : Hid (Bk (w3.setCell ⟨hv, i, none⟩ (.slice A3 n3 c3)) hv 281 #[sl3 ((fun j => if j = i then (A3, n3, c3) else T j) 0), sl3 ((fun j => if j = i then (A3, n3, c3) else T j) 1), sl3 ((fun j => if j = i then (A3, n3, c3) else T j) 2)]) := Lib.hid (three_set hk3 hi3 (A3, n3, c3))
          have hkx3 : Kx 0 [281] w3 (w3.setCell ⟨hv, i, none⟩ (.slice A3 n3 c3)) := Kx.set Kx.refl hk3 (Nat.zero_le _) (by simp) i _
          have HO3 : Hid (∀ j, j < i + 1 → OptT (w3.setCell ⟨hv, i, none⟩ (.slice A3 n3 c3)) H ((fun j => if j = i then (A3, n3, c3) else T j) j).1 ((fun j => if j = i then (A3, n3, c3) else T j) j).2.1 ((fun j => if j = i then (A3, n3, c3) else T j) j).2.2 (findC ((it3 O X Y j).cms.map Cm.p) k)) := Lib.hid (fun j hj => by
            by_cases hji : j = i
            · subst hji
              simp only [if_true]
              rw [← HOO.out]
              exact hT3.kx hkx3 (by decide)
            · simp only [if_neg hji]
              exact ((HO.out j (by omega)).below hb3).kx hkx3 (by decide))
          have HB3 : Hid (Below wo.heap.size wo (w3.setCell ⟨hv, i, none⟩ (.slice A3 n3 c3))) := Lib.hid ((HBx.out.trans (hb3.mono HBx.out.size)).setCell (p := ⟨hv, i, none⟩) (by show wo.heap.size ≤ hv; have := HHV.out; omega) _)
          clear hv3 hT3 hb3 hk3 hkx3 n0 n1 n2
          go_wp2_with fail
          go_roundw
          case rel => exact ⟨i + 1, fun j => if j = i then (A3, n3, c3) else T j, by omega, by go_num, HT3, HO3, HB3⟩
          case measure => simp [intOf]; omega
        · obtain rfl : i = 3 := by omega
          obtain ⟨wv, rfl⟩ : ∃ x, x = wr := ⟨_, rfl⟩
          have h0 : OptT wv H (T 0).1 (T 0).2.1 (T 0).2.2 (findC (O.cms.map Cm.p) k) := HO.out 0 (by omega)
          have h1 : OptT wv H (T 1).1 (T 1).2.1 (T 1).2.2 (findC (X.cms.map Cm.p) k) := HO.out 1 (by omega)
          have h2 : OptT wv H (T 2).1 (T 2).2.1 (T 2).2.2 (findC (Y.cms.map Cm.p) k) := HO.out 2 (by omega)
          have HTV : Hid (Bk wv hv 281 #[.slice (T 0).1 (T 0).2.1 (T 0).2.2, .slice (T 1).1 (T 1).2.1 (T 1).2.2, .slice (T 2).1 (T 2).2.1 (T 2).2.2]) := Lib.hid HT.out
          clear HT HO
          generalize (T 0).1 = A0 at *
          generalize (T 0).2.1 = n0 at *
          generalize (T 0).2.2 = c0 at *
          generalize (T 1).1 = A1 at *
          generalize (T 1).2.1 = n1 at *
          generalize (T 1).2.2 = c1 at *
          generalize (T 2).1 = A2 at *
          generalize (T 2).2.1 = n2 at *
          generalize (T 2).2.2 = c2 at *
          obtain ⟨o0, ho0⟩ : ∃ o, o = findC (O.cms.map Cm.p) k := ⟨_, rfl⟩
          obtain ⟨o1, ho1⟩ : ∃ o, o = findC (X.cms.map Cm.p) k := ⟨_, rfl⟩
          obtain ⟨o2, ho2⟩ : ∃ o, o = findC (Y.cms.map Cm.p) k := ⟨_, rfl⟩
          have HLEN : Hid (∀ u v z, o0 = some u → o1 = some v → o2 = some z → u.length = v.length ∧ z.length = v.length ∧ v.length ≤ 8) := Lib.hid fun u v z e0 e1 e2 => by
            rw [ho0] at e0; rw [ho1] at e1; rw [ho2] at e2
            refine ⟨VCs.len (hl := holdK_len) HVC.out.1 HVC.out.2.1 e0 e1, VCs.len (hl := holdK_len) HVC.out.2.2 HVC.out.2.1 e2 e1, ?_⟩
            obtain ⟨d, _, h3⟩ := HVC.out.2.1.at_ e1
            exact holdK_small h3
          have HSV : Hid (∀ v, (o0 = some v ∨ o1 = some v ∨ o2 = some v) → v.length ≤ 8) := Lib.hid fun v hv8 => by
            rcases hv8 with h | h | h
            · obtain ⟨d, _, h3⟩ := HVC.out.1.at_ (ho0.symm.trans h); exact holdK_small h3
            · obtain ⟨d, _, h3⟩ := HVC.out.2.1.at_ (ho1.symm.trans h); exact holdK_small h3
            · obtain ⟨d, _, h3⟩ := HVC.out.2.2.at_ (ho2.symm.trans h); exact holdK_small h3
          rw [← ho0] at h0
          rw [← ho1] at h1
          rw [← ho2] at h2
          have HOF := Lib.hid (And.intro ho0 (And.intro ho1 ho2))
          have HLv := Lib.hid (HL.out.below HBx.out)
          have HCv := Lib.hid (HC.out.below HBx.out)
          have HBv : Hid (Below w.heap.size w wv) := Lib.hid (HB.out.trans (HBx.out.mono HB.out.size))
          have H01 := Lib.hid (And.intro h0 (And.intro h1 h2))
          have hwv : wo.heap.size ≤ wv.heap.size := HBx.out.size
          have hHv : H ≤ wv.heap.size := by omega
          have hvv : hv < wv.heap.size := HTV.out.lt
          have e0 := fun wx => run_neq_slice_nil_any (P := Try.prog) wx 30 3 A0 n0 c0 0 0 Try.underlying30
          have e1 := fun wx => run_neq_slice_nil_any (P := Try.prog) wx 30 3 A1 n1 c1 0 0 Try.underlying30
          have e2 := fun wx => run_neq_slice_nil_any (P := Try.prog) wx 30 3 A2 n2 c2 0 0 Try.underlying30
          have k0 : wv.cell? ⟨hv, 0, none⟩ = some (.slice A0 n0 c0) := HTV.out.cell 0
          have k1 : wv.cell? ⟨hv, 1, none⟩ = some (.slice A1 n1 c1) := HTV.out.cell 1
          have k2 : wv.cell? ⟨hv, 2, none⟩ = some (.slice A2 n2 c2) := HTV.out.cell 2
          clear h0 h1 h2 ho0 ho1 ho2 HL HC HB HBx
          obtain ⟨bb, hbb⟩ : ∃ bb, bb = (o0.isSome && (o1.isSome && o2.isSome)) := ⟨_, rfl⟩
          have HBB := Lib.hid hbb
          clear hbb
          go_upto_region 13 with fail
          go_cut [48] from 36 to 47 (fun bv wx => bv = .bool bb ∧ wx = wv)
          case first =>
            obtain ⟨h0, h1, h2⟩ := H01.out
            rcases h0 with ⟨rfl, rfl, rfl, rfl⟩ | ⟨v0, g0, rfl, rfl, _, _⟩
            · have e0 : ∀ wx, Sem.run Try.prog (binOp BinOp.neq 30 (.slice none 0 0) (.slice none 0 0)) wx = .ok (.bool false) wx := e0
              go_wp2_with fail
              go_meet
              case rel => exact ⟨by rw [HBB.out]; rfl, rfl⟩
            · have e0 : ∀ wx, Sem.run Try.prog (binOp BinOp.neq 30 (.slice (some ⟨g0, 0, none⟩) n0 c0) (.slice none 0 0)) wx = .ok (.bool true) wx := e0
              rcases h1 with ⟨rfl, rfl, rfl, rfl⟩ | ⟨v1, g1, rfl, rfl, _, _⟩
              · have e1 : ∀ wx, Sem.run Try.prog (binOp BinOp.neq 30 (.slice none 0 0) (.slice none 0 0)) wx = .ok (.bool false) wx := e1
                go_wp2_with fail
                go_meet
                case rel => exact ⟨by rw [HBB.out]; rfl, rfl⟩
              · have e1 : ∀ wx, Sem.run Try.prog (binOp BinOp.neq 30 (.slice (some ⟨g1, 0, none⟩) n1 c1) (.slice none 0 0)) wx = .ok (.bool true) wx := e1
                rcases h2 with ⟨rfl, rfl, rfl, rfl⟩ | ⟨v2, g2, rfl, rfl, _, _⟩
                · have e2 : ∀ wx, Sem.run Try.prog (binOp BinOp.neq 30 (.slice none 0 0) (.slice none 0 0)) wx = .ok (.bool false) wx := e2
                  go_wp2_with fail
                  go_meet
                  case rel => exact ⟨by rw [HBB.out]; rfl, rfl⟩
                · have e2 : ∀ wx, Sem.run Try.prog (binOp BinOp.neq 30 (.slice (some ⟨g2, 0, none⟩) n2 c2) (.slice none 0 0)) wx = .ok (.bool true) wx := e2
                  go_wp2_with fail
                  go_meet
                  case rel => exact ⟨by rw [HBB.out]; rfl, rfl⟩
          case rest =>
            obtain ⟨rfl, hwc⟩ := hcut
            subst wc
            clear e0 e1 e2
            go_upto_if 48 with fail
            go_cut [9, 13] from 49 to 94 (fun cv gv wx => ∃ (CA' : Option Addr) (cn' cc' : Nat) (GA : Option Addr) (gn gc : Nat), cv = .slice CA' cn' cc' ∧ gv = .slice GA gn gc ∧ Hid (CR H wx CA' cn' cc' (compsC sl (k + 1) (O.cms.map Cm.p) (X.cms.map Cm.p) (Y.cms.map Cm.p))) ∧ Hid (OptV wx wx.heap.size GA gn gc (compF o0 o1 o2)) ∧ Hid (Kx H [73] wv wx) ∧ Hid (Below w.heap.size w wx))
            case first =>
              obtain ⟨h0, h1, h2⟩ := H01.out
              by_cases hall : o0.isSome = true ∧ o1.isSome = true ∧ o2.isSome = true
              · have hbt : bb = true := by rw [HBB.out]; simp [hall]
                subst hbt
                rcases h0 with ⟨rfl, _⟩ | ⟨v0, g0, rfl, rfl, hn0, hw0⟩
                · simp at hall
                rcases h1 with ⟨rfl, _⟩ | ⟨v1, g1, rfl, rfl, hn1, hw1⟩
                · simp at hall
                rcases h2 with ⟨rfl, _⟩ | ⟨v2, g2, rfl, rfl, hn2, hw2⟩
                · simp at hall
                obtain ⟨hl0, hl2, hl8⟩ := HLEN.out v0 v1 v2 rfl rfl rfl
                have HN := Lib.hid (And.intro hn0 (And.intro hn1 (And.intro hn2 (And.intro hl0 hl2))))
                have hn18 : n1 ≤ 8 := by omega
                have HR0 := Lib.hid hw0
                have HR1 := Lib.hid hw1
                have HR2 := Lib.hid hw2
                have HCL := Lib.hid (cloneInts_some ⟨g1, 0, none⟩ n1 c1 wv.heap.size (v1.map (Value.int .i64)) wv (Rd.of_own hw1) (by intro u hu; obtain ⟨z, _, rfl⟩ := List.mem_map.1 hu; rfl) (Nat.le_refl _) (by omega))
                clear hall hn0 hn1 hn2 hl0 hl2 hl8 hw0 hw1 hw2
                go_wp2_with fail
                (with_reducible refine HCL.out.mono ?_)
                rintro e w3 ⟨gV, vc, rfl, hown3, hb3⟩
                have HC3 : Hid (CR H w3 CA cn cc (compsC sl k (O.cms.map Cm.p) (X.cms.map Cm.p) (Y.cms.map Cm.p) ++ valsC sl k v0 v1 v2 0)) := Lib.hid (by rw [show valsC sl k v0 v1 v2 0 = [] from rfl, List.append_nil]; exact HCv.out.below hb3)
                have HO3 : Hid (w3.ownsRow wv.heap.size 3 1 (.slice (some ⟨gV, 0, none⟩) n1 vc) n1 ((curF v0 v1 v2 0).map (Value.int .i64))) := Lib.hid (by rw [curF_zero]; exact hown3)
                have HK3 : Hid (Kx H [73] wv w3) := Lib.hid (Kx.of_below hb3)
                have HB3 : Hid (Below w.heap.size w w3) := Lib.hid (HBv.out.trans (hb3.mono HBv.out.size))
                clear hown3 hb3 HCL k0 k1 k2
                go_wp2_with fail
                go_loopw [9, 54] (fun cv iv wx => ∃ (f : Nat) (CB : Option Addr) (bn bc : Nat), f ≤ n1 ∧ iv = .int .i64 f ∧ cv = .slice CB bn bc ∧ Hid (CR H wx CB bn bc (compsC sl k (O.cms.map Cm.p) (X.cms.map Cm.p) (Y.cms.map Cm.p) ++ valsC sl k v0 v1 v2 f)) ∧ Hid (wx.ownsRow wv.heap.size 3 1 (.slice (some ⟨gV, 0, none⟩) n1 vc) n1 ((curF v0 v1 v2 f).map (Value.int .i64))) ∧ Hid (Kx H [73] wv wx) ∧ Hid (Below w.heap.size w wx)) (fun _ iv _ => n1 - (intOf iv).toNat)
                case atStart => exact ⟨0, CA, cn, cc, Nat.zero_le _, rfl, rfl, HC3, HO3, HK3, HB3⟩
                case round =>
                  clear HC3 HO3 HK3 HB3
                  obtain ⟨f, CB, bn, bc, hf, rfl, rfl, HCf, HOf, HKf, HBf⟩ := hrel
                  by_cases hfl : f < n1
                  · have hfz : (f : Int) < n1 := by omega
                    have hf0 : (0 : Int) ≤ f := by omega
                    obtain ⟨hf, hhf⟩ : ∃ hf, hf = wr.heap.size := ⟨_, rfl⟩
                    obtain ⟨w1, hw1⟩ : ∃ w1, w1 = wr.alloc (.cells #[.int .i64 f] 3) := ⟨_, rfl⟩
                    have hb1 : Below wr.heap.size wr w1 := by rw [hw1]; exact Below.al (Below.refl _ _) _
                    have hkf : Bk w1 hf 3 #[.int .i64 f] := by rw [hw1, hhf]; exact Bk.new _ _ _
                    have hK1 : Kx H [73] wv w1 := HKf.out.below hb1
                    have hkv := hK1.bk HTV.out (by decide)
                    have hr0 := hK1.own HR0.out (by decide)
                    have hr1 := hK1.own HR1.out (by decide)
                    have hr2 := hK1.own HR2.out (by decide)
                    have hch := choose176_any (.pointer (some ⟨hv, 0, none⟩)) (.pointer (some ⟨hf, 0, none⟩)) w1 (decide (v1.getD f 0 = v2.getD f 0)) (decide (v0.getD f 0 = v1.getD f 0)) (decide (v0.getD f 0 = v2.getD f 0))
                      (fun wx hb => clo176_any 1 2 1 2 hv hf f _ _ n1 c1 n2 c2 wx.heap.size v1 v2 wx rfl rfl (by omega) (by omega) ((hkv.below2 hb).cell 1) ((hkv.below2 hb).cell 2) ((hkf.below2 hb).cell 0) HN.out.2.1 HN.out.2.2.1 (Rd.of_own ((Kx.of_below (B := 0) (F := []) hb).own hr1 (by simp))) (Rd.of_own ((Kx.of_below (B := 0) (F := []) hb).own hr2 (by simp))) hfl (by have h := HN.out; omega))
                      (fun wx hb => clo176_any 0 1 0 1 hv hf f _ _ n0 c0 n1 c1 wx.heap.size v0 v1 wx rfl rfl (by omega) (by omega) ((hkv.below2 hb).cell 0) ((hkv.below2 hb).cell 1) ((hkf.below2 hb).cell 0) HN.out.1 HN.out.2.1 (Rd.of_own ((Kx.of_below (B := 0) (F := []) hb).own hr0 (by simp))) (Rd.of_own ((Kx.of_below (B := 0) (F := []) hb).own hr1 (by simp))) (by have h := HN.out; omega) hfl)
                      (fun wx hb => clo176_any 0 2 0 2 hv hf f _ _ n0 c0 n2 c2 wx.heap.size v0 v2 wx rfl rfl (by omega) (by omega) ((hkv.below2 hb).cell 0) ((hkv.below2 hb).cell 2) ((hkf.below2 hb).cell 0) HN.out.1 HN.out.2.2.1 (Rd.of_own ((Kx.of_below (B := 0) (F := []) hb).own hr0 (by simp))) (Rd.of_own ((Kx.of_below (B := 0) (F := []) hb).own hr2 (by simp))) (by have h := HN.out; omega) (by have h := HN.out; omega))
                    obtain ⟨R, hR⟩ : ∃ R, R = chF (decide (v1.getD f 0 = v2.getD f 0)) (decide (v0.getD f 0 = v1.getD f 0)) (decide (v0.getD f 0 = v2.getD f 0)) := ⟨_, rfl⟩
                    rw [← hR] at hch
                    have hR3 : R = 0 ∨ R = 1 ∨ R = 2 := by rw [hR]; exact chF_3 _ _ _
                    have hcv := chF_val (v0.getD f 0) (v1.getD f 0) (v2.getD f 0)
                    rw [← hR] at hcv
                    have HCV := Lib.hid hcv
                    have HCH := Lib.hid hch
                    have HB1 : Hid (Below wr.heap.size wr w1) := Lib.hid hb1
                    have HKF := Lib.hid hkf
                    have HKV := Lib.hid hkv
                    have HRR := Lib.hid (And.intro hr0 (And.intro hr1 hr2))
                    have HHF := Lib.hid hhf
                    have hwvr : wv.heap.size ≤ wr.heap.size := HKf.out.size
                    clear hch hcv hR hb1 hkf hkv hK1 hr0 hr1 hr2 hhf
                    go_wp2_with fail
                    rw [← hw1, ← HHF.out]
                    clear hw1
                    (with_reducible refine HCH.out.mono ?_)
                    rintro e w3 ⟨rfl, hb3⟩
                    have HC3 := Lib.hid ((HCf.out.below HB1.out).below hb3)
                    have HO3 := Lib.hid (own_keepB HOf.out fun g hg => ((hb3.mono HB1.out.size).block g (HOf.out.lt g hg).2).trans (HB1.out.block g (HOf.out.lt g hg).2))
                    have HK3 := Lib.hid ((HKf.out.below HB1.out).below hb3)
                    have HB3 : Hid (Below w.heap.size w w3) := Lib.hid ((HBf.out.trans (HB1.out.mono HBf.out.size)).trans (hb3.mono (Nat.le_trans HBf.out.size HB1.out.size)))
                    have hkf3 := HKF.out.below2 hb3
                    have HKV3 := Lib.hid (HKV.out.below2 hb3)
                    have HR23 := Lib.hid ((Kx.of_below (B := 0) (F := []) hb3).own HRR.out.2.2 (by simp))
                    have kf : w3.cell? ⟨hf, 0, none⟩ = some (.int .i64 f) := hkf3.cell 0
                    have hw13 : w1.heap.size ≤ w3.heap.size := hb3.size
                    have hw01 : wr.heap.size ≤ w1.heap.size := HB1.out.size
                    have HF3 := Lib.hid hkf3
                    clear hb3 HB1 hkf3 HCH
                    rcases hR3 with rfl | rfl | rfl
                    · have hcn : bn ≤ 1000000 := by
                        have h1 := HC3.out.len
                        have h2 := compsC_len sl k (O.cms.map Cm.p) (X.cms.map Cm.p) (Y.cms.map Cm.p) (fun j v h => find_small HVC.out.2.1 h)
                        have h3 := valsC_len sl k v0 v1 v2 f
                        rw [List.length_append] at h1
                        omega
                      go_wp2_with
                        (at_builtin
                         go_must (refine wpList_append_one _ rfl (.tmp 61) (.tmp 66) _ rfl H 73 iC (.agg #[.int .i64 0, .int .i64 0, .int .i64 0, .int .i64 0]) 4 32 Try.underlying55 hiC hzC0 hzC1 hzC2 rfl (by decide) (.slice CB bn bc) bn _ rfl (HC3.out.own.alloc _) w3.heap.size 1 73 #[.int .i64 2, .int .i64 sl, .int .i64 k, .int .i64 f] rfl (Bk.new _ _ _) rfl ?c1 (bn + 1) rfl ?c2 ?c3 ?c4 ?_)
                         case c1 => simp [Value.oneCell']
                         case c2 => unfold maxLen; omega
                         case c3 => omega
                         case c4 => (simp; omega)
                         intro gA cA wA hownA hgA hatA)
                      have hS := HC3.out.snoc hownA hgA
                      have HCN : Hid (CR H wA (some ⟨gA, 0, none⟩) (bn + 1) cA (compsC sl k (O.cms.map Cm.p) (X.cms.map Cm.p) (Y.cms.map Cm.p) ++ valsC sl k v0 v1 v2 (f + 1))) := Lib.hid (by
                        rw [valsC_step, if_pos (by rw [HCV.out.2]; rfl), ← List.append_assoc]; exact hS.1)
                      have HON : Hid (wA.ownsRow wv.heap.size 3 1 (.slice (some ⟨gV, 0, none⟩) n1 vc) n1 ((curF v0 v1 v2 (f + 1)).map (Value.int .i64))) := Lib.hid (by
                        rw [curF_same v0 v1 v2 f (by have h := HN.out; omega) (by rw [HCV.out.1]; rfl)]; exact hS.2.own HO3.out (by decide))
                      have HKN : Hid (Kx H [73] wv wA) := Lib.hid (HK3.out.trans hS.2)
                      have HBN : Hid (Below w.heap.size w wA) := Lib.hid ((HB3.out.alloc HB3.out.size _).grown hgA (by have := HB3.out.size; simp; omega) (fun q hq => by have := (HC3.out.own.lt q hq).1; omega))
                      clear hS hownA hgA hatA
                      go_wp2_with fail
                      go_roundw
                      case rel => exact ⟨f + 1, some ⟨gA, 0, none⟩, bn + 1, cA, by omega, by go_num, rfl, HCN, HON, HKN, HBN⟩
                      case measure => simp [intOf]; omega
                    · have HCN : Hid (CR H w3 CB bn bc (compsC sl k (O.cms.map Cm.p) (X.cms.map Cm.p) (Y.cms.map Cm.p) ++ valsC sl k v0 v1 v2 (f + 1))) := Lib.hid (by
                        rw [valsC_step, if_neg (by rw [HCV.out.2]; decide), List.append_nil]; exact HC3.out)
                      have HON : Hid (w3.ownsRow wv.heap.size 3 1 (.slice (some ⟨gV, 0, none⟩) n1 vc) n1 ((curF v0 v1 v2 (f + 1)).map (Value.int .i64))) := Lib.hid (by
                        rw [curF_same v0 v1 v2 f (by have h := HN.out; omega) (by rw [HCV.out.1]; rfl)]; exact HO3.out)
                      go_wp2_with fail
                      go_roundw
                      case rel => exact ⟨f + 1, CB, bn, bc, by omega, by go_num, rfl, HCN, HON, HK3, HB3⟩
                      case measure => simp [intOf]; omega
                    · obtain ⟨hgV, hgV2⟩ := HO3.out.lt gV rfl
                      have hy := intsV_get v2 f (by have h := HN.out; omega)
                      have hfn2 : (f : Int) < n2 := by have h := HN.out; omega
                      have hfl2 : f < n2 := by have h := HN.out; omega
                      obtain ⟨y, hyy⟩ : ∃ y, y = v2.getD f 0 := ⟨_, rfl⟩
                      rw [← hyy] at hy
                      have HYY := Lib.hid hyy
                      have ky : w3.cell? ⟨g2, f, none⟩ = some (.int .i64 y) := (HR23.out.cellAt f (by omega)).trans hy
                      have kv2 : w3.cell? ⟨hv, 2, none⟩ = some (.slice (some ⟨g2, 0, none⟩) n2 c2) := HKV3.out.cell 2
                      have kV : w3.cell? ⟨gV, f, none⟩ = some (.int .i64 ((curF v0 v1 v2 f).getD f 0)) := (HO3.out.cellAt f (by omega)).trans (intsV_get _ f (by rw [curF_len]; have h := HN.out; omega))
                      have fV : w3.frozen? ⟨gV, f, none⟩ = false := HO3.out.frozenAt f
                      clear hyy hy
                      have s3 : w3.drew.cell? ⟨hf, 0, none⟩ = some (.int .i64 f) ∧ w3.drew.cell? ⟨hv, 2, none⟩ = some (.slice (some ⟨g2, 0, none⟩) n2 c2) ∧ w3.drew.cell? ⟨g2, f, none⟩ = some (.int .i64 y) := ⟨kf, kv2, ky⟩
                      go_wp2_with fail
                      refine wp_region_E (S := fun wx => wx.cell? ⟨hf, 0, none⟩ = some (.int .i64 f) ∧ wx.cell? ⟨hv, 2, none⟩ = some (.slice (some ⟨g2, 0, none⟩) n2 c2) ∧ wx.cell? ⟨g2, f, none⟩ = some (.int .i64 y)) (last := 8) (by kernel_rfl) ?_
                      refine wpAnyE_val (i := 0) (v := .slice (some ⟨gV, 0, none⟩) n1 vc) (d := some 70) rfl rfl (by kernel_rfl) (by kernel_rfl) (by kernel_rfl) (by kernel_rfl) (fun _ _ _ h => h) (Or.inl ⟨by rfl, fun w hS => by (obtain ⟨h0, h1, h2⟩ := hS; go_simp)⟩) s3 ?_
                      (try simp only [Act.put, List.setIfInBounds_toArray, List.set_cons_zero, List.set_cons_succ])
                      refine wpAnyE_val (i := 1) (v := .int .i64 (f : Int)) (d := some 71) rfl rfl (by kernel_rfl) (by kernel_rfl) (by kernel_rfl) (by kernel_rfl) (fun _ _ _ h => h) (Or.inl ⟨by rfl, fun w hS => by (obtain ⟨h0, h1, h2⟩ := hS; go_simp)⟩) s3 ?_
                      (try simp only [Act.put, List.setIfInBounds_toArray, List.set_cons_zero, List.set_cons_succ])
                      refine wpAnyE_val (i := 2) (v := .pointer (some ⟨hv, 2, none⟩)) (d := some 72) rfl rfl (by kernel_rfl) (by kernel_rfl) (by kernel_rfl) (by kernel_rfl) (fun _ _ _ h => h) (Or.inl ⟨by rfl, fun w hS => by (obtain ⟨h0, h1, h2⟩ := hS; go_simp)⟩) s3 ?_
                      (try simp only [Act.put, List.setIfInBounds_toArray, List.set_cons_zero, List.set_cons_succ])
                      refine wpAnyE_val (i := 3) (v := .slice (some ⟨g2, 0, none⟩) n2 c2) (d := some 73) rfl rfl (by kernel_rfl) (by kernel_rfl) (by kernel_rfl) (by kernel_rfl) (fun _ _ _ h => h) (Or.inl ⟨by rfl, fun w hS => by (obtain ⟨h0, h1, h2⟩ := hS; go_simp)⟩) s3 ?_
                      (try simp only [Act.put, List.setIfInBounds_toArray, List.set_cons_zero, List.set_cons_succ])
                      refine wpAnyE_val (i := 4) (v := .int .i64 (f : Int)) (d := some 74) rfl rfl (by kernel_rfl) (by kernel_rfl) (by kernel_rfl) (by kernel_rfl) (fun _ _ _ h => h) (Or.inl ⟨by rfl, fun w hS => by (obtain ⟨h0, h1, h2⟩ := hS; go_simp)⟩) s3 ?_
                      (try simp only [Act.put, List.setIfInBounds_toArray, List.set_cons_zero, List.set_cons_succ])
                      refine wpAnyE_val (i := 5) (v := .pointer (some ⟨g2, f, none⟩)) (d := some 75) rfl rfl (by kernel_rfl) (by kernel_rfl) (by kernel_rfl) (by kernel_rfl) (fun _ _ _ h => h) (Or.inl ⟨by rfl, fun w hS => by (obtain ⟨h0, h1, h2⟩ := hS; go_simp)⟩) s3 ?_
                      (try simp only [Act.put, List.setIfInBounds_toArray, List.set_cons_zero, List.set_cons_succ])
                      refine wpAnyE_val (i := 6) (v := .int .i64 y) (d := some 76) rfl rfl (by kernel_rfl) (by kernel_rfl) (by kernel_rfl) (by kernel_rfl) (fun _ _ _ h => h) (Or.inl ⟨by rfl, fun w hS => by (obtain ⟨h0, h1, h2⟩ := hS; go_simp)⟩) s3 ?_
                      (try simp only [Act.put, List.setIfInBounds_toArray, List.set_cons_zero, List.set_cons_succ])
                      refine wpAnyE_val (i := 7) (v := .pointer (some ⟨gV, f, none⟩)) (d := some 77) rfl rfl (by kernel_rfl) (by kernel_rfl) (by kernel_rfl) (by kernel_rfl) (fun _ _ _ h => h) (Or.inl ⟨by rfl, fun w hS => by (obtain ⟨h0, h1, h2⟩ := hS; go_simp)⟩) s3 ?_
                      (try simp only [Act.put, List.setIfInBounds_toArray, List.set_cons_zero, List.set_cons_succ])
                      refine wpAnyE_one (i := 8) rfl (by kernel_rfl) rfl ?_
                      go_simp
                      refine wpAnyE_done (by kernel_rfl) ?_ _
                      obtain ⟨hst1, hst2⟩ := World.ownsRow.stored (w := w3.drew) HO3.out f (.int .i64 y)
                      have hst2 : w3.drew.grownBy (w3.drew.setCell ⟨gV, f, none⟩ (.int .i64 y)) (Value.slice (some ⟨gV, 0, none⟩) n1 vc).ownBlock := hst2
                      have hkS : Kx 0 [3] w3 (w3.drew.setCell ⟨gV, f, none⟩ (.int .i64 y)) := (Kx.refl (B := 0) |>.drew).grown (w' := w3.drew) HO3.out hst2 (Nat.zero_le _) (by simp)
                      have HCN : Hid (CR H (w3.drew.setCell ⟨gV, f, none⟩ (.int .i64 y)) CB bn bc (compsC sl k (O.cms.map Cm.p) (X.cms.map Cm.p) (Y.cms.map Cm.p) ++ valsC sl k v0 v1 v2 (f + 1))) := Lib.hid (by
                        rw [valsC_step, if_neg (by rw [HCV.out.2]; decide), List.append_nil]; exact HC3.out.kx hkS (by decide))
                      have HON : Hid ((w3.drew.setCell ⟨gV, f, none⟩ (.int .i64 y)).ownsRow wv.heap.size 3 1 (.slice (some ⟨gV, 0, none⟩) n1 vc) n1 ((curF v0 v1 v2 (f + 1)).map (Value.int .i64))) := Lib.hid (by
                        have h9 : valF (v0.getD f 0) (v1.getD f 0) (v2.getD f 0) = y := by rw [HCV.out.1, HYY.out]; first | rfl | simp
                        rw [curF_step, h9, List.map_set]; exact hst1)
                      have HKN : Hid (Kx H [73] wv (w3.drew.setCell ⟨gV, f, none⟩ (.int .i64 y))) := Lib.hid (HK3.out.drew.setNew hgV f _)
                      have HBN : Hid (Below w.heap.size w (w3.drew.setCell ⟨gV, f, none⟩ (.int .i64 y))) := Lib.hid (HB3.out.drew.setCell (p := ⟨gV, f, none⟩) (by show w.heap.size ≤ gV; omega) _)
                      clear hst1 hst2 hkS s3 ky kv2 kV fV
                      go_wp2_with fail
                      go_roundw
                      case rel => exact ⟨f + 1, CB, bn, bc, by omega, by go_num, rfl, HCN, HON, HKN, HBN⟩
                      case measure => simp [intOf]; omega
                  · obtain rfl : n1 = f := by omega
                    go_wp2_with fail
                    go_meet
                    have hcp := own_cap2 HOf.out
                    case rel => exact ⟨CB, bn, bc, some ⟨gV, 0, none⟩, n1, vc, rfl, rfl, Lib.hid (by rw [compsC_step, ← HOF.out.1, ← HOF.out.2.1, ← HOF.out.2.2]; show CR H wr CB bn bc (_ ++ valsC sl k v0 v1 v2 v1.length); rw [← HN.out.2.1]; exact HCf.out), Lib.hid (.inr ⟨valsF v0 v1 v2, ⟨gV, 0, none⟩, rfl, rfl, by rw [← curF_full, curF_len]; exact HN.out.2.1, hcp.1, hcp.2, by have h := Rd.of_own HOf.out; rw [HN.out.2.1, curF_full] at h; rw [HN.out.2.1]; exact h⟩), HKf, HBf⟩
              · have hbf : bb = false := by
                  rw [HBB.out]
                  cases hq : (o0.isSome && (o1.isSome && o2.isSome)) with
                  | false => rfl
                  | true => exact absurd (by simpa only [Bool.and_eq_true] using hq) hall
                subst hbf
                have hkn := compF_not (s := sl) (k := k) hall
                have hpk := chF_pick o0 o1 o2
                have hch := choose177_any (.pointer (some ⟨hv, 0, none⟩)) wv (decide (o1 = o2)) (decide (o0 = o1)) (decide (o0 = o2))
                  (fun wx hb => clo177_any 1 2 1 2 hv A1 A2 n1 c1 n2 c2 wx.heap.size o1 o2 wx rfl rfl (by omega) (by omega) ((HTV.out.below2 hb).cell 1) ((HTV.out.below2 hb).cell 2) (h1.below hb).v (h2.below hb).v)
                  (fun wx hb => clo177_any 0 1 0 1 hv A0 A1 n0 c0 n1 c1 wx.heap.size o0 o1 wx rfl rfl (by omega) (by omega) ((HTV.out.below2 hb).cell 0) ((HTV.out.below2 hb).cell 1) (h0.below hb).v (h1.below hb).v)
                  (fun wx hb => clo177_any 0 2 0 2 hv A0 A2 n0 c0 n2 c2 wx.heap.size o0 o2 wx rfl rfl (by omega) (by omega) ((HTV.out.below2 hb).cell 0) ((HTV.out.below2 hb).cell 2) (h0.below hb).v (h2.below hb).v)
                obtain ⟨R, hR⟩ : ∃ R, R = chF (decide (o1 = o2)) (decide (o0 = o1)) (decide (o0 = o2)) := ⟨_, rfl⟩
                rw [← hR] at hch hpk
                have hR3 : R = 0 ∨ R = 1 ∨ R = 2 := by rw [hR]; exact chF_3 _ _ _
                rw [hpk] at hkn
                have HKN := Lib.hid hkn
                have HCH := Lib.hid hch
                have HCC : Hid (compsC sl (k + 1) (O.cms.map Cm.p) (X.cms.map Cm.p) (Y.cms.map Cm.p) = compsC sl k (O.cms.map Cm.p) (X.cms.map Cm.p) (Y.cms.map Cm.p) ++ compC sl k o0 o1 o2) := Lib.hid (by rw [compsC_step, ← HOF.out.1, ← HOF.out.2.1, ← HOF.out.2.2])
                clear hkn hpk hch hR hall h0 h1 h2
                go_wp2_with fail
                (with_reducible refine HCH.out.mono ?_)
                rintro e w3 ⟨rfl, hb3⟩
                have HC3 := Lib.hid (HCv.out.below hb3)
                have H3 : Hid (OptT w3 H A1 n1 c1 o1 ∧ OptT w3 H A2 n2 c2 o2) := Lib.hid ⟨H01.out.2.1.below hb3, H01.out.2.2.below hb3⟩
                have HK3 : Hid (Kx H [73] wv w3) := Lib.hid (Kx.of_below hb3)
                have HB3 : Hid (Below w.heap.size w w3) := Lib.hid (HBv.out.trans (hb3.mono HBv.out.size))
                have kv2 : w3.cell? ⟨hv, 2, none⟩ = some (.slice A2 n2 c2) := (HTV.out.below2 hb3).cell 2
                have hw3 : wv.heap.size ≤ w3.heap.size := hb3.size
                clear hb3 HCH k0 k1 k2
                rcases hR3 with rfl | rfl | rfl
                · have hcn : cn ≤ 1000000 := by
                    have h1 := HC3.out.len
                    have h2 := compsC_len sl k (O.cms.map Cm.p) (X.cms.map Cm.p) (Y.cms.map Cm.p) (fun j v h => find_small HVC.out.2.1 h)
                    omega
                  go_wp2_with
                    (at_builtin
                     go_must (refine wpList_append_one _ rfl (.tmp 83) (.tmp 87) _ rfl H 73 iC (.agg #[.int .i64 0, .int .i64 0, .int .i64 0, .int .i64 0]) 4 32 Try.underlying55 hiC hzC0 hzC1 hzC2 rfl (by decide) (.slice CA cn cc) cn _ rfl (HC3.out.own.alloc _) w3.heap.size 1 73 #[.int .i64 1, .int .i64 sl, .int .i64 k, .int .i64 0] rfl (Bk.new _ _ _) rfl ?c1 (cn + 1) rfl ?c2 ?c3 ?c4 ?_)
                     case c1 => simp [Value.oneCell']
                     case c2 => unfold maxLen; omega
                     case c3 => omega
                     case c4 => (simp; omega)
                     intro gA cA wA hownA hgA hatA)
                  have hS := HC3.out.snoc hownA hgA
                  have HCN : Hid (CR H wA (some ⟨gA, 0, none⟩) (cn + 1) cA (compsC sl (k + 1) (O.cms.map Cm.p) (X.cms.map Cm.p) (Y.cms.map Cm.p))) := Lib.hid (by rw [HCC.out, HKN.out.2]; exact hS.1)
                  have HGN : Hid (OptV wA wA.heap.size A1 n1 c1 (compF o0 o1 o2)) := Lib.hid (by rw [HKN.out.1]; exact (H3.out.1.kx hS.2 (by decide)).v)
                  have HKN2 : Hid (Kx H [73] wv wA) := Lib.hid (HK3.out.trans hS.2)
                  have HBN : Hid (Below w.heap.size w wA) := Lib.hid ((HB3.out.alloc HB3.out.size _).grown hgA (by have := HB3.out.size; simp; omega) (fun q hq => by have := (HC3.out.own.lt q hq).1; omega))
                  clear hS hownA hgA hatA
                  go_wp2_with fail
                  go_meet
                  case rel => exact ⟨some ⟨gA, 0, none⟩, cn + 1, cA, A1, n1, c1, rfl, rfl, HCN, HGN, HKN2, HBN⟩
                · have HCN : Hid (CR H w3 CA cn cc (compsC sl (k + 1) (O.cms.map Cm.p) (X.cms.map Cm.p) (Y.cms.map Cm.p))) := Lib.hid (by rw [HCC.out, HKN.out.2]; simpa using HC3.out)
                  have HGN : Hid (OptV w3 w3.heap.size A1 n1 c1 (compF o0 o1 o2)) := Lib.hid (by rw [HKN.out.1]; exact H3.out.1.v)
                  go_wp2_with fail
                  go_meet
                  case rel => exact ⟨CA, cn, cc, A1, n1, c1, rfl, rfl, HCN, HGN, HK3, HB3⟩
                · have HCN : Hid (CR H w3 CA cn cc (compsC sl (k + 1) (O.cms.map Cm.p) (X.cms.map Cm.p) (Y.cms.map Cm.p))) := Lib.hid (by rw [HCC.out, HKN.out.2]; simpa using HC3.out)
                  have HGN : Hid (OptV w3 w3.heap.size A2 n2 c2 (compF o0 o1 o2)) := Lib.hid (by rw [HKN.out.1]; exact H3.out.2.v)
                  go_wp2_with fail
                  go_meet
                  case rel => exact ⟨CA, cn, cc, A2, n2, c2, rfl, rfl, HCN, HGN, HK3, HB3⟩
            case rest =>
              obtain ⟨CA', cn', cc', GA, gn, gc, rfl, rfl, HC', HG, HK', HB'⟩ := hcut
              have hLc := LK.kx HLv.out HK'.out (by decide) (by decide) (by decide) (by decide)
              have HLc := Lib.hid hLc
              have hwc : wv.heap.size ≤ wc.heap.size := HK'.out.size
              have en := fun wx => run_neq_slice_nil_any (P := Try.prog) wx 30 3 GA gn gc 0 0 Try.underlying30
              clear hLc k0 k1 k2
              rcases HG.out with ⟨hn, rfl, rfl, rfl⟩ | ⟨v, g, hn, rfl, hgn, hgc, hgc2, hrd⟩
              · have en : ∀ wx, Sem.run Try.prog (binOp BinOp.neq 30 (.slice none 0 0) (.slice none 0 0)) wx = .ok (.bool false) wx := en
                have HLN := Lib.hid (HLc.out.none_ (by rw [← HOF.out.1, ← HOF.out.2.1, ← HOF.out.2.2]; exact hn))
                clear hn
                go_wp2_with fail
                go_roundw
                case rel => exact ⟨k + 1, q, oc, OA, cl, CA', cn', cc', by omega, by omega, by go_num, rfl, HLN, HC', HB'⟩
                case measure => simp [intOf]; omega
              · have en : ∀ wx, Sem.run Try.prog (binOp BinOp.neq 30 (.slice (some g) gn gc) (.slice none 0 0)) wx = .ok (.bool true) wx := en
                have hv8 : v.length ≤ 1048576 := by have := compF_len HSV.out hn; omega
                have HCL := Lib.hid (cloneInts_any (some g) gn gc wc.heap.size (v.map (Value.int .i64)) wc.drew (hrd.below (Below.refl _ _).drew) (by intro u hu; obtain ⟨z, _, rfl⟩ := List.mem_map.1 hu; rfl) (Nat.le_refl _) (by omega))
                have HN : Hid (compF (findC (O.cms.map Cm.p) k) (findC (X.cms.map Cm.p) k) (findC (Y.cms.map Cm.p) k) = some v ∧ gn = v.length) := Lib.hid ⟨by rw [← HOF.out.1, ← HOF.out.2.1, ← HOF.out.2.2]; exact hn, hgn⟩
                have s1 : wc.drew.cell? ⟨hx, 2, none⟩ = some (.slice OA q oc) := HLc.out.bx.cell 2
                have hgn8 : gn ≤ 1048576 := by omega
                clear hn hgn hrd hv8
                go_wp2_with fail
                refine wp_region_E (S := fun wx => wx.cell? ⟨hx, 2, none⟩ = some (.slice OA q oc)) (last := 9) (by kernel_rfl) ?_
                refine wpAnyE_val (i := 0) (v := .pointer (some ⟨hx, 2, none⟩)) (d := some 95) rfl rfl (by kernel_rfl) (by kernel_rfl) (by kernel_rfl) (by kernel_rfl) (fun _ _ _ h => h) (Or.inl ⟨by rfl, fun w hS => by (go_simp)⟩) s1 ?_
                (try simp only [Act.put, List.setIfInBounds_toArray, List.set_cons_zero, List.set_cons_succ])
                refine wpAnyE_val (i := 1) (v := .slice OA q oc) (d := some 96) rfl rfl (by kernel_rfl) (by kernel_rfl) (by kernel_rfl) (by kernel_rfl) (fun _ _ _ h => h) (Or.inl ⟨by rfl, fun w hS => by (go_simp)⟩) s1 ?_
                (try simp only [Act.put, List.setIfInBounds_toArray, List.set_cons_zero, List.set_cons_succ])
                refine wpAnyE_val (i := 2) (v := .int .i64 (k : Int)) (d := some 97) rfl rfl (by kernel_rfl) (by kernel_rfl) (by kernel_rfl) (by kernel_rfl) (fun _ _ _ h => h) (Or.inl ⟨by rfl, fun w hS => by (go_simp)⟩) s1 ?_
                (try simp only [Act.put, List.setIfInBounds_toArray, List.set_cons_zero, List.set_cons_succ])
                refine wpAnyE_val (i := 3) (v := .slice (some g) gn gc) (d := some 98) rfl rfl (by kernel_rfl) (by kernel_rfl) (by kernel_rfl) (by kernel_rfl) (fun _ _ _ h => h) (Or.inl ⟨by rfl, fun w hS => by (go_simp)⟩) s1 ?_
                (try simp only [Act.put, List.setIfInBounds_toArray, List.set_cons_zero, List.set_cons_succ])
                refine wpAnyE_one (i := 4) rfl (by kernel_rfl) rfl ?_
                go_simp
                (with_reducible refine HCL.out.mono ?_)
                rintro e w3 ⟨VA, vc3, rfl, hownV, hb3⟩
                have HL3 := Lib.hid ((HLc.out.below (Below.refl _ _).drew).below hb3)
                have HC3 := Lib.hid ((HC'.out.below (Below.refl _ _).drew).below hb3)
                have hw3 : wc.heap.size ≤ w3.heap.size := hb3.size
                have HB3 : Hid (Below w.heap.size w w3) := Lib.hid (HB'.out.drew.trans (hb3.mono HB'.out.size))
                have s3 : w3.cell? ⟨hx, 2, none⟩ = some (.slice OA q oc) := HL3.out.bx.cell 2
                refine ⟨s3, ?_⟩
                (try simp only [Act.put, List.setIfInBounds_toArray, List.set_cons_zero, List.set_cons_succ])
                refine wpAnyE_val (i := 5) (v := .agg #[.int .i64 (k : Int), .slice VA gn vc3]) (d := some 100) rfl rfl (by kernel_rfl) (by kernel_rfl) (by kernel_rfl) (by kernel_rfl) (fun _ _ _ h => h) (Or.inl ⟨by rfl, fun w hS => by (go_simp)⟩) s3 ?_
                (try simp only [Act.put, List.setIfInBounds_toArray, List.set_cons_zero, List.set_cons_succ])
                refine wpAnyE_one (i := 6) rfl (by kernel_rfl) rfl ?_
                go_simp
                have s8 : (w3.alloc (.cells #[.int .i64 (k : Int), .slice VA gn vc3] 166)).cell? ⟨hx, 2, none⟩ = some (.slice OA q oc) := (HL3.out.bx.alloc _).cell 2
                refine ⟨s8, ?_⟩
                (try simp only [Act.put, List.setIfInBounds_toArray, List.set_cons_zero, List.set_cons_succ])
                refine wpAnyE_if (i := 7) rfl (by kernel_rfl) rfl ?_
                refine step_append_one rfl (.tmp 96) (.tmp 101) 38 rfl H 166 i1 (.agg #[.int .i64 0, .slice none 0 0]) 2 32 Try.underlying38 hi1 hz10 hz11 hz12 rfl (by decide) (.slice OA q oc) q (cmCs cl) rfl (HL3.out.own.alloc _) w3.heap.size 1 166 #[.int .i64 (k : Int), .slice VA gn vc3] rfl (Bk.new w3 _ _) rfl ?c1 (q + 1) rfl ?c2 ?c3 ?c4 ?_
                case c1 => simp [Value.oneCell']
                case c2 => unfold maxLen; omega
                case c3 => omega
                case c4 => (simp; omega)
                intro gA cA wA hownA hgA hatA
                have hboA := (HL3.out.bx.alloc (.cells #[.int .i64 (k : Int), .slice VA gn vc3] 166)).grown hgA (fun e => own_ne HL3.out.own HL3.out.bx (by decide) e.symm)
                have sA : wA.cell? ⟨hx, 2, none⟩ = some (.slice OA q oc) := hboA.cell 2
                have fA := hboA.frozen 2
                refine ⟨fun _ => sA, ?_⟩
                (try simp only [Act.put, List.setIfInBounds_toArray])
                refine wpAnyE_val (i := 8) (v := .pointer (some ⟨hx, 2, none⟩)) (d := some 103) rfl rfl (by kernel_rfl) (by kernel_rfl) (by kernel_rfl) (by kernel_rfl) (fun _ _ _ h => h) (Or.inl ⟨by rfl, fun w hS => by (go_simp)⟩) sA ?_
                (try simp only [Act.put])
                refine wpAnyE_one (i := 9) rfl (by kernel_rfl) rfl ?_
                go_simp
                refine wpAnyE_done (by kernel_rfl) ?_ _
                have hcF := own_cap2 hownV
                have hCM : CmY w3 0 (⟨k, VA, gn, vc3, v⟩ : Cm) := ⟨.of_own hownV, HN.out.2, hcF.1, hcF.2, wf_i64 (by show _ ≤ ((k : Nat) : Int); omega) (by show ((k : Nat) : Int) ≤ _; omega)⟩
                have hLN := HL3.out.snoc (z := ⟨k, VA, gn, vc3, v⟩) hCM (fun b o hA => by
                  have h1 := (hownV.lt b (by rw [show VA = some ⟨b, o, none⟩ from hA]; rfl)).1
                  have h3 : (wc.drew).heap.size = wc.heap.size := rfl
                  omega) rfl HN.out.1 hownA hgA
                have HCN : Hid (CR H (wA.setCell ⟨hx, 2, none⟩ (.slice (some ⟨gA, 0, none⟩) (q + 1) cA)) CA' cn' cc' (compsC sl (k + 1) (O.cms.map Cm.p) (X.cms.map Cm.p) (Y.cms.map Cm.p))) := Lib.hid (HC3.out.kx hLN.2 (by decide))
                have HBN : Hid (Below w.heap.size w (wA.setCell ⟨hx, 2, none⟩ (.slice (some ⟨gA, 0, none⟩) (q + 1) cA))) := Lib.hid (((HB3.out.alloc HB3.out.size _).grown hgA (by have := HB3.out.size; simp; omega) (fun q hq => by have := (HL3.out.own.lt q hq).1; omega)).setCell (p := ⟨hx, 2, none⟩) (by show w.heap.size ≤ hx; omega) _)
                have HLN := Lib.hid hLN.1
                clear hLN hCM hcF hownA hgA hatA hboA sA fA s8 s3 s1 hownV hb3 HL3 HC3 HB3
                go_wp2_with fail
                go_roundw
                case rel => exact ⟨k + 1, q + 1, cA, some ⟨gA, 0, none⟩, cl ++ [(⟨k, VA, gn, vc3, v⟩ : Cm)], CA', cn', cc', by omega, by omega, by go_num, rfl, HLN, HCN, HBN⟩
                case measure => simp [intOf]; omega
    · obtain rfl : K = k := by omega
      have hR := HL.out.br
      have hX := HL.out.bx
      have b0 : wo.cell? ⟨hx, 0, none⟩ = some (.int .i64 X.e) := hX.cell 0
      have b1 : wo.cell? ⟨hx, 1, none⟩ = some (.int .i64 X.g) := hX.cell 1
      have b2 : wo.cell? ⟨hx, 2, none⟩ = some (.slice OA q oc) := hX.cell 2
      have n0 : wo.cell? ⟨r, 0, none⟩ = some (.int .i64 0) := hR.cell 0
      have n1 : wo.cell? ⟨r, 1, none⟩ = some (.int .i64 0) := hR.cell 1
      have n2 : wo.cell? ⟨r, 2, none⟩ = some (.slice none 0 0) := hR.cell 2
      have m0 := hR.frozen 0
      have m1 := hR.frozen 1
      have m2 := hR.frozen 2
      have hrh : r ≠ hx := by omega
      have hrh2 : hx ≠ r := by omega
      have HR := Lib.hid hR
      clear hR hX
      go_wp2_with fail
      (try simp only [Exit.inBlock, Exit.then])
      have hcap := own_cap2 HL.out.own
      have hq3 : Kx 0 [147] wo (((wo.setCell ⟨r, 0, none⟩ (.int .i64 X.e)).setCell ⟨r, 1, none⟩ (.int .i64 X.g)).setCell ⟨r, 2, none⟩ (.slice OA q oc)) := Kx.set3 (B := 0) Kx.refl HR.out (Nat.zero_le _) (by simp) 0 1 2 _ _ _
      refine bodyPost_ret (v := .tuple #[.agg #[.int .i64 X.e, .int .i64 X.g, .slice OA q oc], .slice CA cn cc]) ?_ rfl ⟨OA, q, oc, cl, CA, cn, cc, rfl, Lib.hid ⟨⟨⟨(RdY.of_own HL.out.own).keep hq3 (by decide), HL.out.len, hcap.1, hcap.2, fun z hz => (HL.out.ok z hz).keep hq3 (by decide)⟩, HWF.out.1, HWF.out.2⟩, HL.out.eq, HL.out.fr.mono hHw⟩, Lib.hid ?_, below3R HB.out (by omega) _ _ _⟩
      · rw [results_cell_tmp rfl]
        go_simp
      · have h := HC.out.kx hq3 (by decide)
        rw [← HNM.out.1]; exact h
end Go.Proofs.Ytnidcmhfbkdioaa
